/- A part of the proofs of this seat: contracts of the functions that its statements reach. -/
import Derived.Test.YtfnaplhjkapghaaDoorT28
import Derived.Test.YtfnaplhjkapghaaDoorProg
set_option linter.unusedVariables false
set_option linter.unusedSimpArgs false
set_option maxRecDepth 4000
namespace Go.Proofs.YtfnaplhjkapghaaDoor
open Go Go.RowKit Go.Proofs.YtfnaplhjkapghaaDoor.Sp
theorem ent_25 : Ent Tryd.prog 25 := ent_of Tryd.prog Tryd.func25 rfl rfl
theorem ent_42 : Ent Tryd.prog 42 := ent_of Tryd.prog Tryd.func42 rfl rfl

theorem joinC {E : Env} {Γ : List Asn} (ws : List (List UInt8)) (g c m : Nat) (w : World) (hwm : ws.length = m) (h0 : 0 < ws.length) (hn : ws.length ≤ 1048576) (hl : (Lib.join ws [32]).length ≤ 140737488355328)
    (hw : Sat E w (Row 9 1 (.slice (some ⟨g, 0, none⟩) m c) m (ws.flatMap cStr) :: Γ)) : CV Tryd.prog 42 [.slice (some ⟨g, 0, none⟩) m c, str [32]] w (str (Lib.join ws [32])) := by
  subst hwm
  obtain ⟨_, A, c', hv, hle, _, hh⟩ := hw.rowHas
  simp only [Value.slice.injEq] at hv
  obtain ⟨rfl, _, rfl⟩ := hv
  have hcell : ∀ (j : Nat) x, (ws.map fun s => (⟨s.toArray⟩ : ByteArray))[j]? = some x → w.cell? ⟨g, 0 + j, none⟩ = some (.string x) := by
    intro j x hx
    rw [List.getElem?_map] at hx
    cases hj : ws[j]? with
    | none => rw [hj] at hx; cases hx
    | some s =>
      rw [hj] at hx
      obtain rfl := Option.some.inj hx
      have := (hh _ rfl).2.2 j (str s) (by rw [flat_cStr]; simp [hj])
      rw [add_lit] at this
      exact this
  have hb : g < w.heap.size := by
    cases hz : ws[0]? with
    | none => rw [List.getElem?_eq_none_iff] at hz; omega
    | some s => exact World.block_lt_of_cell? w _ (hcell 0 ⟨s.toArray⟩ (by simp [hz]))
  have hm : (ws.map fun s => (⟨s.toArray⟩ : ByteArray)).map (·.data.toList) = ws := by rw [List.map_map]; exact (List.map_congr_left (fun s _ => rfl)).trans (List.map_id ws)
  have h := Tryd.strings_Join g 0 c (ws.map fun s => ⟨s.toArray⟩) ⟨[32].toArray⟩ w hcell hb (by simp; omega) (by simp; omega) (by rw [hm]; exact hl)
  rw [hm] at h
  have e : (ws.map fun s => (⟨s.toArray⟩ : ByteArray)).length = ws.length := by simp
  rw [e] at h
  exact h.mono fun e w' ⟨he, hb'⟩ => ⟨he, sat_below hb'⟩
theorem wordsTake {l : List Part} {k : Nat} (hk : k < l.length) : (l.take (k + 1)).map partS = (l.take k).map partS ++ [partS (l.getD k p0)] := by
  have e : l.take (k + 1) = l.take k ++ [l.getD k p0] := by
    rw [List.take_add_one]; simp [List.getD, List.getElem?_eq_getElem hk]
  rw [e, List.map_append]; rfl
theorem wordsFlat (l : List Part) (k : Nat) : (((l.take k).map partS).flatMap cStr).length = min k l.length := by rw [flat_cStr]; simp

/-! impl.changeText -/
theorem imChangeC (l : List Part) (A : Option Addr) (c : Nat) (w : World) (hg : GL w) (hr : RdL (hp w) rPart A l) (hl : l.length ≤ 1048576) (hG : ∀ p ∈ l, smallP p ∧ (kindP p == 0) = false) : CV Tryd.prog 25 [.slice A l.length c] w (str (chT l)) := by
  refine CV.of ?_
  refine enter Tryd.func25 rfl rfl rfl (Sat.start w) ?_
  simp only [mkL]
  refine WC.seq ?_
  refine WC.region ?_
  refine WO.val (.asg (.r rfl)) rfl ?_
  refine WO.nil ?_
  refine KQ.seq ?_
  refine WC.seq ?_
  refine WC.region ?_
  refine WO.bs0 sli_33 rfl fun g0 => ?_
  refine WO.val (.asg (.r rfl)) rfl ?_
  refine WO.nil ?_
  refine KQ.seq ?_
  refine WC.seq ?_
  refine WC.seq ?_
  refine WC.region ?_
  refine WO.val (.mv (.r rfl)) rfl ?_
  refine WO.val (.len sli_22 (.r rfl)) rfl ?_
  refine WO.val (.mv (.r rfl)) rfl ?_
  refine WO.nil ?_
  refine KQ.seq ?_
  refine WC.block ?_
  refine WC.loop (σ := {p : Nat × Value // p.1 ≤ l.length}) (fun q => [(3, q.1.2), (7, .slice A l.length c), (8, .int .i64 (l.length : Nat)), (9, .int .i64 (q.1.1 : Nat))]) (fun q => [Row 9 1 q.1.2 q.1.1 (((l.take q.1.1).map partS).flatMap cStr)]) (fun q => l.length - q.1.1) (⟨(0, .slice (some ⟨g0, 0, none⟩) 0 0), Nat.zero_le _⟩) (by exact ⟨rfl, rfl, rfl, rfl, trivial⟩) (fun w hw => by simpa using hw) ?_
  rintro ⟨⟨k, v⟩, hkl⟩
  dsimp only at hkl
  dsimp only
  refine WC.seq ?_
  refine WC.region ?_
  refine WO.val (.bin (.r rfl) (.r rfl) rfl) rfl ?_
  refine WO.nil ?_
  refine KQ.seq ?_
  refine WC.seq ?_
  refine WC.cond rfl (fun k10 => ?_) (fun k10 => ?_)
  · have hk := lt_of_dec k10
    obtain ⟨ad, rfl, _, _, _⟩ := hr k hk
    obtain ⟨hsm, hk0⟩ := hG _ (getD_mem hk)
    unfold smallP at hsm
    refine WC.skip ?_
    refine KQ.seq ?_
    refine WC.seq ?_
    refine WC.block ?_
    refine WC.seq ?_
    refine WC.region ?_
    refine WO.val (.ixn sli_22 (.r rfl) (.r rfl) hk) rfl ?_
    refine WO.val (.ldS (cs := cPart (l.getD k p0)) str_36 (.r rfl) rfl (fun w hw j u hu => hw.cell (rdD hr hk j u hu))) rfl ?_
    refine WO.al zer_36 rfl fun g1 => ?_
    refine WO.stW (k := 0) str_36 rfl rfl rfl rfl rfl rfl (by repeat constructor) ?_
    refine WO.nil ?_
    refine KQ.seq ?_
    refine WC.seq ?_
    refine WC.region ?_
    refine WO.val (.ldW (k := 0) str_36 (.r rfl) rfl rfl) rfl ?_
    refine WO.callS rfl ent_35 rfl (fun w hw => implKind (l.getD k p0) w) ?_
    refine WO.nil ?_
    refine KQ.seq ?_
    refine WC.block ?_
    refine WC.seq ?_
    refine WC.region ?_
    refine WO.val (.bin (.r rfl) (.r rfl) rfl) rfl ?_
    refine WO.val (.asg (.r rfl)) rfl ?_
    refine WO.nil ?_
    refine KQ.seq ?_
    refine WC.cond rfl (fun k22 => ?_) (fun k22 => ?_)
    · have k22 : (kindP (l.getD k p0) == 1) = true := by simpa [-List.getD_eq_getElem?_getD] using k22
      refine WC.region ?_
      refine WO.val (.mv (.r rfl)) rfl ?_
      refine WO.val (.faL fld_36_0 (.r rfl) rfl) rfl ?_
      refine WO.val (.ldB (k := 0) one_3 (.r rfl) rfl rfl) rfl ?_
      refine WO.callS rfl ent_32 rfl (fun w hw => itoaC (l.getD k p0).keep (by omega) (by omega) w (hg.mono hw)) ?_
      refine WO.val (.addS (.r rfl) (.r rfl) (a := [61]) (by have := itoa_len (n := (l.getD k p0).keep) (by omega) (by omega); simp [-List.getD_eq_getElem?_getD]; omega)) rfl ?_
      refine WO.bs (vs := [str (61 :: Lib.itoa (l.getD k p0).keep)]) (c := (cStr (61 :: Lib.itoa (l.getD k p0).keep))) sli_33 rfl rfl rfl (by omega) (by intro v hv; obtain rfl := List.mem_singleton.1 hv; rfl) rfl (by omega) fun g9 => ?_
      refine WO.pull 2 (.s (.s .z)) ?_
      refine WO.app (k := 1) (c := 1) (news := (cStr (61 :: Lib.itoa (l.getD k p0).keep))) sli_33 rfl rfl rfl rfl (fun w hw => has_blk (hw.blkAt (k := 1) rfl) rfl) (by intro u hu; simp [cStr] at hu; subst hu; rfl) (by rw [maxLen_eq]; omega) (by omega) fun u9 => ?_
      refine WO.val (.asg (.r rfl)) rfl ?_
      refine WO.nil ?_
      refine KQ.blockN (KQ.blockN (KQ.seq ?_))
      refine WC.region ?_
      refine WO.val (.bin (.r rfl) (.r rfl) (pb_inc (by omega))) rfl ?_
      refine WO.val (.mv (.r rfl)) rfl ?_
      refine WO.nil ?_
      refine KQ.again (⟨(k + 1, u9), by dsimp only; omega⟩) (by dsimp only; omega) (by exact ⟨rfl, rfl, rfl, rfl, trivial⟩) (fun w hw => by rw [wordsTake hk, List.flatMap_append]; have h9 := ((hw.pull 1 (.s .z)).drop.pull 1 (.s .z)).drop; rw [partS_1 (kind_1 k22)]; simpa using h9)
    · have k22 : (kindP (l.getD k p0) == 1) = false := by simpa [-List.getD_eq_getElem?_getD] using k22
      refine WC.seq ?_
      refine WC.region ?_
      refine WO.val (.bin (.r rfl) (.r rfl) rfl) rfl ?_
      refine WO.val (.asg (.r rfl)) rfl ?_
      refine WO.nil ?_
      refine KQ.seq ?_
      refine WC.cond rfl (fun k31 => ?_) (fun k31 => ?_)
      · have k31 : (kindP (l.getD k p0) == 2) = true := by simpa [-List.getD_eq_getElem?_getD] using k31
        refine WC.region ?_
        refine WO.val (.mv (.r rfl)) rfl ?_
        refine WO.val (.faL fld_36_1 (.r rfl) rfl) rfl ?_
        refine WO.val (.ldB (k := 0) one_3 (.r rfl) rfl rfl) rfl ?_
        refine WO.callS rfl ent_32 rfl (fun w hw => itoaC (l.getD k p0).drop (by omega) (by omega) w (hg.mono hw)) ?_
        refine WO.val (.addS (.r rfl) (.r rfl) (a := [45]) (by have := itoa_len (n := (l.getD k p0).drop) (by omega) (by omega); simp [-List.getD_eq_getElem?_getD]; omega)) rfl ?_
        refine WO.bs (vs := [str (45 :: Lib.itoa (l.getD k p0).drop)]) (c := (cStr (45 :: Lib.itoa (l.getD k p0).drop))) sli_33 rfl rfl rfl (by omega) (by intro v hv; obtain rfl := List.mem_singleton.1 hv; rfl) rfl (by omega) fun g9 => ?_
        refine WO.pull 2 (.s (.s .z)) ?_
        refine WO.app (k := 1) (c := 1) (news := (cStr (45 :: Lib.itoa (l.getD k p0).drop))) sli_33 rfl rfl rfl rfl (fun w hw => has_blk (hw.blkAt (k := 1) rfl) rfl) (by intro u hu; simp [cStr] at hu; subst hu; rfl) (by rw [maxLen_eq]; omega) (by omega) fun u9 => ?_
        refine WO.val (.asg (.r rfl)) rfl ?_
        refine WO.nil ?_
        refine KQ.blockN (KQ.blockN (KQ.seq ?_))
        refine WC.region ?_
        refine WO.val (.bin (.r rfl) (.r rfl) (pb_inc (by omega))) rfl ?_
        refine WO.val (.mv (.r rfl)) rfl ?_
        refine WO.nil ?_
        refine KQ.again (⟨(k + 1, u9), by dsimp only; omega⟩) (by dsimp only; omega) (by exact ⟨rfl, rfl, rfl, rfl, trivial⟩) (fun w hw => by rw [wordsTake hk, List.flatMap_append]; have h9 := ((hw.pull 1 (.s .z)).drop.pull 1 (.s .z)).drop; rw [partS_2 (kind_2 k31).1 (kind_2 k31).2]; simpa using h9)
      · have k31 : (kindP (l.getD k p0) == 2) = false := by simpa [-List.getD_eq_getElem?_getD] using k31
        refine WC.region ?_
        refine WO.val (.mv (.r rfl)) rfl ?_
        refine WO.val (.faL fld_36_2 (.r rfl) rfl) rfl ?_
        refine WO.val (.ldB (k := 0) one_9 (.r rfl) rfl rfl) rfl ?_
        refine WO.callS rfl ent_34 rfl (fun w hw => implCoded (l.getD k p0).put (by omega) w) ?_
        refine WO.val (.addS (.r rfl) (.r rfl) (a := [43]) (by have := codedL_len (l.getD k p0).put; simp [-List.getD_eq_getElem?_getD]; omega)) rfl ?_
        refine WO.bs (vs := [str (43 :: codedL (l.getD k p0).put)]) (c := (cStr (43 :: codedL (l.getD k p0).put))) sli_33 rfl rfl rfl (by omega) (by intro v hv; obtain rfl := List.mem_singleton.1 hv; rfl) rfl (by omega) fun g9 => ?_
        refine WO.pull 2 (.s (.s .z)) ?_
        refine WO.app (k := 1) (c := 1) (news := (cStr (43 :: codedL (l.getD k p0).put))) sli_33 rfl rfl rfl rfl (fun w hw => has_blk (hw.blkAt (k := 1) rfl) rfl) (by intro u hu; simp [cStr] at hu; subst hu; rfl) (by rw [maxLen_eq]; omega) (by omega) fun u9 => ?_
        refine WO.val (.asg (.r rfl)) rfl ?_
        refine WO.nil ?_
        refine KQ.blockN (KQ.blockN (KQ.seq ?_))
        refine WC.region ?_
        refine WO.val (.bin (.r rfl) (.r rfl) (pb_inc (by omega))) rfl ?_
        refine WO.val (.mv (.r rfl)) rfl ?_
        refine WO.nil ?_
        refine KQ.again (⟨(k + 1, u9), by dsimp only; omega⟩) (by dsimp only; omega) (by exact ⟨rfl, rfl, rfl, rfl, trivial⟩) (fun w hw => by rw [wordsTake hk, List.flatMap_append]; have h9 := ((hw.pull 1 (.s .z)).drop.pull 1 (.s .z)).drop; rw [partS_3 (kind_3 hk0 k22 k31).2.1 (kind_3 hk0 k22 k31).2.2]; simpa using h9)
  · obtain rfl : k = l.length := by have := ge_of_dec k10; omega
    refine WC.fact (fun w hw => hw.rowAny) fun hv => ?_
    obtain ⟨A1, c1x, rfl⟩ := hv
    refine WC.exit ?_
    refine KQ.thenX (KQ.thenX (KQ.blockX (KQ.seq ?_)))
    refine WC.seq ?_
    refine WC.seq ?_
    refine WC.region ?_
    refine WO.val (.mv (.r rfl)) rfl ?_
    refine WO.val (.len sli_33 (.r rfl)) rfl ?_
    refine WO.val (.bin (.r rfl) (.r rfl) rfl) rfl ?_
    refine WO.nil ?_
    refine KQ.seq ?_
    refine WC.cond rfl (fun k43 => ?_) (fun k43 => ?_)
    · refine WC.seq ?_
      refine WC.region ?_
      refine WO.val (.asg (.r rfl)) rfl ?_
      refine WO.nil ?_
      refine KQ.seq ?_
      refine WC.ret ?_
      exact KQ.thenR (KQ.fin rfl (.tmp rfl .nil) (fun w hw => ⟨(), by rw [chT, if_pos (by simpa using k43)]; rfl, hw.none⟩))
    · have hl0 : l.length ≠ 0 := by simpa using k43
      refine WC.fact (fun w hw => hw.rowSome (by omega)) fun hv => ?_
      obtain ⟨g, c9, hv, _, _⟩ := hv
      cases hv
      refine WC.skip ?_
      refine KQ.seq ?_
      refine WC.seq ?_
      refine WC.region ?_
      refine WO.val (.mv (.r rfl)) rfl ?_
      refine WO.callS rfl ent_42 rfl (fun w hw => by have h9 := hw; rw [List.take_length] at h9; exact joinC (l.map partS) g c1x l.length w (by simp) (by simp; omega) (by simp; omega) (by have := txt_len (fun p hp => (hG p hp).1) l.length (Nat.le_refl _); rw [List.take_length] at this; unfold txt at this; omega) h9) ?_
      refine WO.val (.asg (.r rfl)) rfl ?_
      refine WO.nil ?_
      refine KQ.seq ?_
      refine WC.ret ?_
      exact KQ.fin rfl (.tmp rfl .nil) (fun w hw => ⟨(), by rw [chT, if_neg (by intro h; exact hl0 (by simpa using h))]; rfl, hw.none⟩)
/-! impl.ChangeText -/
theorem imTextC (l : List Part) (A : Option Addr) (c : Nat) (w : World) (hg : GL w) (hr : RdL (hp w) rPart A l) (hl : l.length ≤ 1048576) (hq : ∀ p ∈ l, p.put.length ≤ 9007199254740992) : CV Tryd.prog 11 [.slice A l.length c] w (.tuple #[str (if good l = true then chT l else []), .bool (good l)]) := by
  refine CV.of ?_
  refine enter Tryd.func11 rfl rfl rfl (Sat.start w) ?_
  simp only [mkL]
  refine WC.seq ?_
  refine WC.region ?_
  refine WO.val (.asg (.r rfl)) rfl ?_
  refine WO.val (.asg (.r rfl)) rfl ?_
  refine WO.nil ?_
  refine KQ.seq ?_
  refine WC.seq ?_
  refine WC.seq ?_
  refine WC.region ?_
  refine WO.val (.mv (.r rfl)) rfl ?_
  refine WO.callS rfl ent_21 rfl (fun w hw => implGood l A c w (hr.mono hw.old) (by omega) hq) ?_
  refine WO.val (.nt (.r rfl)) rfl ?_
  refine WO.nil ?_
  refine KQ.seq ?_
  refine WC.cond rfl (fun c1 => ?_) (fun c1 => ?_)
  · refine WC.seq ?_
    refine WC.region ?_
    refine WO.val (.asg (.r rfl)) rfl ?_
    refine WO.val (.asg (.r rfl)) rfl ?_
    refine WO.nil ?_
    refine KQ.seq ?_
    refine WC.ret ?_
    exact KQ.thenR (KQ.fin rfl (.tmp rfl (.tmp rfl .nil)) (fun w hw => ⟨(), by rw [show good l = false from by simpa using c1]; rfl, hw⟩))
  · refine WC.skip ?_
    refine KQ.seq ?_
    refine WC.seq ?_
    refine WC.region ?_
    refine WO.val (.mv (.r rfl)) rfl ?_
    refine WO.callS rfl ent_25 rfl (fun w hw => imChangeC l A c w (hg.mono hw) (hr.mono hw.old) hl (fun p hp => gspec_small l none 0 0 (show good l = true from by simpa using c1) p hp)) ?_
    refine WO.val (.asg (.r rfl)) rfl ?_
    refine WO.val (.asg (.r rfl)) rfl ?_
    refine WO.nil ?_
    refine KQ.seq ?_
    refine WC.ret ?_
    exact KQ.fin rfl (.tmp rfl (.tmp rfl .nil)) (fun w hw => ⟨(), by rw [show good l = true from by simpa using c1]; rfl, hw⟩)

theorem pB_eq {p q : Part} (h : (!partB p q) = false) : p = q := by rw [partB_iff] at h; simpa using h
theorem pB_ne {p q : Part} (h : (!partB p q) = true) : p ≠ q := by rw [partB_iff] at h; simpa using h
theorem take_nextD {l m : List Part} {k : Nat} (hp : l.take k = m.take k) (h1 : k < l.length) (h2 : k < m.length) (he : l.getD k p0 = m.getD k p0) : l.take (k + 1) = m.take (k + 1) := by
  rw [List.take_succ_eq_append_getElem h1, List.take_succ_eq_append_getElem h2, hp]
  simp [List.getD, List.getElem?_eq_getElem h1, List.getElem?_eq_getElem h2] at he
  rw [he]

/-! laws.sameParts -/
theorem sameC (l m : List Part) (A B : Option Addr) (c e : Nat) (w : World) (hr : RdL (hp w) rPart A l) (hq : RdL (hp w) rPart B m) (hl : l.length ≤ 1048576) :
    CV Tryd.prog 13 [.slice A l.length c, .slice B m.length e] w (.bool (decide (l = m))) := by
  refine CV.of ?_
  refine enter Tryd.func13 rfl rfl rfl (Sat.start w) ?_
  simp only [mkL]
  refine WC.seq ?_
  refine WC.region ?_
  refine WO.val (.asg (.r rfl)) rfl ?_
  refine WO.nil ?_
  refine KQ.seq ?_
  refine WC.seq ?_
  refine WC.seq ?_
  refine WC.region ?_
  refine WO.val (.mv (.r rfl)) rfl ?_
  refine WO.val (.len sli_22 (.r rfl)) rfl ?_
  refine WO.val (.mv (.r rfl)) rfl ?_
  refine WO.val (.len sli_22 (.r rfl)) rfl ?_
  refine WO.val (.bin (.r rfl) (.r rfl) rfl) rfl ?_
  refine WO.nil ?_
  refine KQ.seq ?_
  refine WC.cond rfl (fun k10 => ?_) (fun k10 => ?_)
  · refine WC.seq ?_
    refine WC.region ?_
    refine WO.val (.asg (.r rfl)) rfl ?_
    refine WO.nil ?_
    refine KQ.seq ?_
    refine WC.ret ?_
    exact KQ.thenR (KQ.fin rfl (.tmp rfl .nil) (fun w hw => ⟨(), by rw [show decide (l = m) = false from by simp at k10 ⊢; rintro rfl; exact k10 rfl]; rfl, hw⟩))
  · have hlen : l.length = m.length := by simp at k10; omega
    refine WC.skip ?_
    refine KQ.seq ?_
    refine WC.seq ?_
    refine WC.seq ?_
    refine WC.region ?_
    refine WO.val (.mv (.r rfl)) rfl ?_
    refine WO.val (.len sli_22 (.r rfl)) rfl ?_
    refine WO.val (.mv (.r rfl)) rfl ?_
    refine WO.nil ?_
    refine KQ.seq ?_
    refine WC.block ?_
    refine WC.loop (σ := {k : Nat // l.take k = m.take k}) (fun s => [(0, .slice A l.length c), (1, .slice B m.length e), (12, .int .i64 (l.length : Nat)), (13, .int .i64 (s.1 : Nat))]) (fun s => []) (fun s => l.length - s.1) (⟨0, rfl⟩) (by exact ⟨rfl, rfl, rfl, rfl, trivial⟩) (fun w hw => hw) ?_
    rintro ⟨k, hp⟩
    dsimp only
    refine WC.seq ?_
    refine WC.region ?_
    refine WO.val (.bin (.r rfl) (.r rfl) rfl) rfl ?_
    refine WO.nil ?_
    refine KQ.seq ?_
    refine WC.seq ?_
    refine WC.cond rfl (fun k14 => ?_) (fun k14 => ?_)
    · have hk := lt_of_dec k14
      have hk2 : k < m.length := by omega
      obtain ⟨ad, rfl, _, _, _⟩ := hr k hk
      obtain ⟨ad2, rfl, _, _, _⟩ := hq k hk2
      refine WC.skip ?_
      refine KQ.seq ?_
      refine WC.seq ?_
      refine WC.block ?_
      refine WC.seq ?_
      refine WC.region ?_
      refine WO.val (.mv (.r rfl)) rfl ?_
      refine WO.val (.asg (.r rfl)) rfl ?_
      refine WO.nil ?_
      refine KQ.seq ?_
      refine WC.seq ?_
      refine WC.quiet (by kernel_rfl) (by kernel_rfl) ?_
      refine WQ.val (.mv (.r rfl)) rfl ?_
      refine WQ.val (.mv (.r rfl)) rfl ?_
      refine WQ.val (.ixn sli_22 (.r rfl) (.r rfl) hk) rfl ?_
      refine WQ.val (.ldS (cs := cPart (l.getD k p0)) str_36 (.r rfl) rfl (fun w hw j u hu => hw.cell (rdD hr hk j u hu))) rfl ?_
      refine WQ.val (.mv (.r rfl)) rfl ?_
      refine WQ.val (.mv (.r rfl)) rfl ?_
      refine WQ.val (.ixn sli_22 (.r rfl) (.r rfl) hk2) rfl ?_
      refine WQ.val (.ldS (cs := cPart (m.getD k p0)) str_36 (.r rfl) rfl (fun w hw j u hu => hw.cell (rdD hq hk2 j u hu))) rfl ?_
      refine WQ.val (.neA (b := partB (l.getD k p0) (m.getD k p0)) seqPart (.r rfl) (.r rfl) (partEq (l.getD k p0) (m.getD k p0))) rfl ?_
      refine WQ.nil ?_
      refine KQ.seq ?_
      refine WC.cond rfl (fun k24 => ?_) (fun k24 => ?_)
      · refine WC.seq ?_
        refine WC.region ?_
        refine WO.val (.asg (.r rfl)) rfl ?_
        refine WO.nil ?_
        refine KQ.seq ?_
        refine WC.ret ?_
        exact KQ.blockR (KQ.thenR (KQ.thenR (KQ.blockR (KQ.thenR (KQ.fin rfl (.tmp rfl .nil) (fun w hw => ⟨(), by rw [show decide (l = m) = false from by simp only [decide_eq_false_iff_not]; rintro rfl; exact pB_ne k24 rfl]; rfl, hw⟩))))))
      · refine WC.skip ?_
        refine KQ.blockN (KQ.seq ?_)
        refine WC.region ?_
        refine WO.val (.bin (.r rfl) (.r rfl) (pb_inc (by omega))) rfl ?_
        refine WO.val (.mv (.r rfl)) rfl ?_
        refine WO.nil ?_
        refine KQ.again (⟨k + 1, take_nextD hp hk hk2 (pB_eq k24)⟩) (by dsimp only; omega) (by exact ⟨rfl, rfl, rfl, rfl, trivial⟩) (fun w hw => hw)
    · refine WC.exit ?_
      refine KQ.thenX (KQ.thenX (KQ.blockX (KQ.seq ?_)))
      refine WC.seq ?_
      refine WC.region ?_
      refine WO.val (.asg (.r rfl)) rfl ?_
      refine WO.nil ?_
      refine KQ.seq ?_
      refine WC.ret ?_
      exact KQ.fin rfl (.tmp rfl .nil) (fun w hw => ⟨(), by rw [show decide (l = m) = true from by simp; exact take_all hp hlen (ge_of_dec k14)]; rfl, hw⟩)
end Go.Proofs.YtfnaplhjkapghaaDoor
