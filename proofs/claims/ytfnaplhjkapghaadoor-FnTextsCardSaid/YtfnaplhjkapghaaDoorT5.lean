/- A part of the proofs of this seat: contracts of the functions that its statements reach. -/
import Derived.Test.YtfnaplhjkapghaaDoorT4
import Derived.Test.YtfnaplhjkapghaaDoorProg
set_option linter.unusedVariables false
set_option linter.unusedSimpArgs false
set_option maxRecDepth 4000
namespace Go.Proofs.YtfnaplhjkapghaaDoor
open Go Go.RowKit Go.Proofs.YtfnaplhjkapghaaDoor.Sp
theorem ent_14 : Ent Tryd.prog 14 := ent_of Tryd.prog Tryd.func14 rfl rfl
theorem ent_15 : Ent Tryd.prog 15 := ent_of Tryd.prog Tryd.func15 rfl rfl
theorem ent_16 : Ent Tryd.prog 16 := ent_of Tryd.prog Tryd.func16 rfl rfl
theorem ent_17 : Ent Tryd.prog 17 := ent_of Tryd.prog Tryd.func17 rfl rfl

theorem rowWord {E : Env} {Γ : List Asn} {w : World} {T c g : Nat} {W : List (List UInt8)} (h : Sat E w (Row T 1 (.slice (some ⟨g, 0, none⟩) W.length c) W.length (W.flatMap cStr) :: Γ)) {k : Nat} (hk : k < W.length) :
    w.cell? ((⟨g, 0, none⟩ : Addr).add (k * 1)) = some (str (W.getD k [])) := by
  have h1 := rd_has (Sat.rowLd rStr rfl h rfl) hk
  have e : W.getD k [] = W[k] := by simp [List.getD, List.getElem?_eq_getElem hk]
  rw [e]; exact has1 h1
theorem glue_len (w : List UInt8) (l : List (List UInt8)) (h : l ≠ []) : (glue w l).length = l.length := by cases l with | nil => exact absurd rfl h | cons x xs => rfl
theorem splitOn_len (b : UInt8) (s : List UInt8) : (splitOn b s).length ≤ s.length + 1 := by
  induction s with
  | nil => simp [splitOn]
  | cons x r ih =>
    rw [splitOn_cons]; split
    · simp; omega
    · rw [glue_len _ _ (splitOn_ne b r)]; simp; omega
theorem splitOn_pos (b : UInt8) (s : List UInt8) : 0 < (splitOn b s).length := List.length_pos_iff.2 (splitOn_ne b s)
theorem splitOn_mem (b : UInt8) (s : List UInt8) : ∀ w ∈ splitOn b s, w.length ≤ s.length := by
  induction s with
  | nil => simp [splitOn]
  | cons x r ih =>
    rw [splitOn_cons]; split
    · intro w hw; simp at hw; rcases hw with rfl | hw
      · simp
      · have := ih w hw; simp; omega
    · intro w hw
      cases h : splitOn b r with
      | nil => exact absurd h (splitOn_ne b r)
      | cons y ys =>
        rw [h] at hw ih; simp [glue] at hw
        rcases hw with rfl | hw
        · have := ih y (by simp); simp; omega
        · have := ih w (by simp [hw]); simp; omega
theorem word_len (b : UInt8) (s : List UInt8) (k : Nat) : ((splitOn b s).getD k []).length ≤ s.length := by
  by_cases h : k < (splitOn b s).length
  · have e : (splitOn b s).getD k [] = (splitOn b s)[k] := by simp [List.getD, List.getElem?_eq_getElem h]
    rw [e]; exact splitOn_mem b s _ (List.getElem_mem h)
  · have e : (splitOn b s).getD k [] = [] := by simp [List.getD, List.getElem?_eq_none (Nat.le_of_not_lt h)]
    rw [e]; simp
theorem dropW {l : List (List UInt8)} {k : Nat} (h : k < l.length) : l.drop k = l.getD k [] :: l.drop (k + 1) := by
  rw [List.drop_eq_getElem_cons h]; simp [List.getD, List.getElem?_eq_getElem h]
def rd1 (w : List UInt8) : Option Part :=
  if decide ((w.length : Int) < 2) = true then none else if (((w.getD 0 0).toNat : Int) == 61) = true then some ⟨num4 (w.drop 1), 0, []⟩ else if (((w.getD 0 0).toNat : Int) == 45) = true then some ⟨0, num4 (w.drop 1), []⟩
  else if (((w.getD 0 0).toNat : Int) == 43) = true then (untold (w.drop 1)).map (fun t => ⟨0, 0, t⟩) else none
def rdAll : List (List UInt8) → Option (List Part)
  | [] => some []
  | w :: ws => match rd1 w with | none => none | some p => (rdAll ws).map (p :: ·)
def readT (s : List UInt8) : Option (List Part) :=
  if (s == [46]) = true then some [] else match rdAll (splitOn 32 s) with | none => none | some ps => if good ps = true then some ps else none
theorem rd_none {W : List (List UInt8)} {k : Nat} {acc : List Part} (hi : rdAll W = (rdAll (W.drop k)).map (acc ++ ·)) (hk : k < W.length) (h : rd1 (W.getD k []) = none) : rdAll W = none := by rw [hi, dropW hk, rdAll, h]; rfl
theorem mapP_app {o : Option (List Part)} (acc : List Part) (b : Part) : (o.map (b :: ·)).map (acc ++ ·) = o.map ((acc ++ [b]) ++ ·) := by cases o <;> simp
theorem rd_on {W : List (List UInt8)} {k : Nat} {acc : List Part} {p : Part} (hi : rdAll W = (rdAll (W.drop k)).map (acc ++ ·)) (hk : k < W.length) (h : rd1 (W.getD k []) = some p) : rdAll W = (rdAll (W.drop (k + 1))).map ((acc ++ [p]) ++ ·) := by
  rw [hi, dropW hk, rdAll, h]; exact mapP_app acc p
theorem rd_done {W : List (List UInt8)} {k : Nat} {acc : List Part} (hi : rdAll W = (rdAll (W.drop k)).map (acc ++ ·)) (hk : W.length ≤ k) : rdAll W = some acc := by rw [hi, List.drop_of_length_le hk]; simp [rdAll]
theorem read_dot {s : List UInt8} (h : (s == [46]) = true) : readT s = some [] := by rw [readT, if_pos h]
theorem read_none {s : List UInt8} (h : (s == [46]) = false) (h2 : rdAll (splitOn 32 s) = none) : readT s = none := by rw [readT, if_neg (by rw [h]; decide), h2]
theorem read_bad {s : List UInt8} {ps : List Part} (h : (s == [46]) = false) (h2 : rdAll (splitOn 32 s) = some ps) (h3 : (!good ps) = true) : readT s = none := by rw [readT, if_neg (by rw [h]; decide), h2]; dsimp only; rw [if_neg (by simpa using h3)]
theorem read_ok {s : List UInt8} {ps : List Part} (h : (s == [46]) = false) (h2 : rdAll (splitOn 32 s) = some ps) (h3 : (!good ps) = false) : readT s = some ps := by rw [readT, if_neg (by rw [h]; decide), h2]; dsimp only; rw [if_pos (by simpa using h3)]
theorem bldPart : Bld Tryd.prog 36 (cPart p0) [(0, 1), (1, 1), (2, 1)] := Bld.of (z' := .agg (cPart p0).toArray) rfl (by kernel_rfl) (by kernel_rfl)
theorem r_a {w : List UInt8} (c3 : decide ((w.length : Int) < 2) = false) (c4 : (((w.getD 0 0).toNat : Int) == 61) = true) : rd1 w = some ⟨num4 (w.drop 1), 0, []⟩ := by rw [rd1, if_neg (by rw [c3]; decide), if_pos c4]
theorem r_b {w : List UInt8} (c3 : decide ((w.length : Int) < 2) = false) (c4 : (((w.getD 0 0).toNat : Int) == 61) = false) (c5 : (((w.getD 0 0).toNat : Int) == 45) = true) : rd1 w = some ⟨0, num4 (w.drop 1), []⟩ := by rw [rd1, if_neg (by rw [c3]; decide), if_neg (by rw [c4]; decide), if_pos c5]
theorem r_c {w : List UInt8} (c3 : decide ((w.length : Int) < 2) = false) (c4 : (((w.getD 0 0).toNat : Int) == 61) = false) (c5 : (((w.getD 0 0).toNat : Int) == 45) = false) (c6 : (((w.getD 0 0).toNat : Int) == 43) = true) : rd1 w = (untold (w.drop 1)).map (fun t => ⟨0, 0, t⟩) := by
  rw [rd1, if_neg (by rw [c3]; decide), if_neg (by rw [c4]; decide), if_neg (by rw [c5]; decide), if_pos c6]
theorem r_d {w : List UInt8} (c3 : decide ((w.length : Int) < 2) = false) (c4 : (((w.getD 0 0).toNat : Int) == 61) = false) (c5 : (((w.getD 0 0).toNat : Int) == 45) = false) (c6 : (((w.getD 0 0).toNat : Int) == 43) = false) : rd1 w = none := by
  rw [rd1, if_neg (by rw [c3]; decide), if_neg (by rw [c4]; decide), if_neg (by rw [c5]; decide), if_neg (by rw [c6]; decide)]
theorem r_c0 {w : List UInt8} (h : rd1 w = (untold (w.drop 1)).map (fun t => ⟨0, 0, t⟩)) (c7 : (!(untold (w.drop 1)).isSome) = true) : rd1 w = none := by
  rw [h]; cases hu : untold (w.drop 1) with | none => rfl | some t => rw [hu] at c7; cases c7
theorem r_c1 {w : List UInt8} (h : rd1 w = (untold (w.drop 1)).map (fun t => ⟨0, 0, t⟩)) (c7 : (!(untold (w.drop 1)).isSome) = false) : rd1 w = some ⟨0, 0, (untold (w.drop 1)).getD []⟩ := by
  rw [h]; cases hu : untold (w.drop 1) with | none => rw [hu] at c7; cases c7 | some t => rfl

/-! spec.ReadChangeText -/
theorem specRead (s : List UInt8) (hs : s.length ≤ 1048576) (w : World) : CP Tryd.prog 5 [str s] w (fun v : Value => .tuple #[v, .bool (readT s).isSome]) (fun v => [Row 36 3 v ((readT s).getD []).length (((readT s).getD []).flatMap cPart)]) := by
  have hsl := splitOn_len 32 s
  refine enter Tryd.func5 rfl rfl rfl (Sat.start w) ?_
  simp only [mkL]
  refine WC.seq ?_
  refine WC.region ?_
  refine WO.val (.asg (.r rfl)) rfl ?_
  refine WO.val (.asg (.r rfl)) rfl ?_
  refine WO.nil ?_
  refine KQ.seq ?_
  refine WC.seq ?_
  refine WC.seq ?_
  refine WC.region ?_
  refine WO.val (.mv (.r rfl)) rfl ?_
  refine WO.val (.eqS (.r rfl) (.r rfl)) rfl ?_
  refine WO.nil ?_
  refine KQ.seq ?_
  refine WC.cond rfl (fun c1 => ?_) (fun c1 => ?_)
  · refine WC.seq ?_
    refine WC.region ?_
    refine WO.val (.asg (.r rfl)) rfl ?_
    refine WO.val (.asg (.r rfl)) rfl ?_
    refine WO.nil ?_
    refine KQ.seq ?_
    refine WC.ret ?_
    exact KQ.thenR (KQ.fin rfl (.tmp rfl (.tmp rfl .nil)) (fun w hw => ⟨.slice none 0 0, by rw [read_dot c1]; rfl, by rw [read_dot c1]; exact hw.none.rowN⟩))
  · refine WC.skip ?_
    refine KQ.seq ?_
    refine WC.seq ?_
    refine WC.region ?_
    refine WO.val (.asg (.r rfl)) rfl ?_
    refine WO.nil ?_
    refine KQ.seq ?_
    refine WC.seq ?_
    refine WC.seq ?_
    refine WC.region ?_
    refine WO.val (.mv (.r rfl)) rfl ?_
    refine WO.callP rfl ent_14 rfl (fun w hw => specSplit s 32 hs w) fun u => ?_
    refine WO.fact (fun w hw => hw.rowSome (splitOn_pos 32 s)) fun hu => ?_
    obtain ⟨g0, c0, rfl, _, _⟩ := hu
    refine WO.val (.len sli_33 (.r rfl)) rfl ?_
    refine WO.val (.mv (.r rfl)) rfl ?_
    refine WO.nil ?_
    refine KQ.seq ?_
    refine WC.block ?_
    refine WC.loop (σ := {p : Nat × List Part × Value // rdAll (splitOn 32 s) = (rdAll ((splitOn 32 s).drop p.1)).map (p.2.1 ++ ·) ∧ p.2.1.length ≤ p.1 ∧ p.1 ≤ (splitOn 32 s).length}) (fun q => [(4, q.1.2.2), (13, .slice (some ⟨g0, 0, none⟩) (splitOn 32 s).length c0), (14, .int .i64 ((splitOn 32 s).length : Nat)), (15, .int .i64 (q.1.1 : Nat))]) (fun q => [Row 9 1 (.slice (some ⟨g0, 0, none⟩) (splitOn 32 s).length c0) (splitOn 32 s).length ((splitOn 32 s).flatMap cStr), Row 36 3 q.1.2.2 q.1.2.1.length (q.1.2.1.flatMap cPart)]) (fun q => (splitOn 32 s).length - q.1.1) (⟨(0, [], .slice none 0 0), by simp⟩) (by exact ⟨rfl, rfl, rfl, rfl, trivial⟩) (fun w hw => (Sat.rowN hw).pull2) ?_
    rintro ⟨⟨k, acc, v⟩, hi, hn, hk0⟩
    dsimp only at hi hn hk0
    dsimp only
    refine WC.seq ?_
    refine WC.region ?_
    refine WO.val (.bin (.r rfl) (.r rfl) rfl) rfl ?_
    refine WO.nil ?_
    refine KQ.seq ?_
    refine WC.seq ?_
    refine WC.cond rfl (fun c2 => ?_) (fun c2 => ?_)
    · have hk := lt_of_dec c2
      refine WC.skip ?_
      refine KQ.seq ?_
      refine WC.seq ?_
      refine WC.block ?_
      refine WC.seq ?_
      refine WC.region ?_
      refine WO.val (.ixn sli_33 (.r rfl) (.r rfl) hk) rfl ?_
      refine WO.val (.ld one_9 (.r rfl) (fun w hw => rowWord hw hk)) rfl ?_
      refine WO.val (.asg (.r rfl)) rfl ?_
      refine WO.nil ?_
      refine KQ.seq ?_
      refine WC.seq ?_
      refine WC.seq ?_
      refine WC.region ?_
      refine WO.val (.mv (.r rfl)) rfl ?_
      refine WO.val (.lenT Tryd.underlying9 (.r rfl)) rfl ?_
      refine WO.val (.bin (.r rfl) (.r rfl) rfl) rfl ?_
      refine WO.nil ?_
      refine KQ.seq ?_
      refine WC.cond rfl (fun c3 => ?_) (fun c3 => ?_)
      · refine WC.seq ?_
        refine WC.region ?_
        refine WO.val (.asg (.r rfl)) rfl ?_
        refine WO.val (.asg (.r rfl)) rfl ?_
        refine WO.nil ?_
        refine KQ.seq ?_
        refine WC.ret ?_
        exact KQ.thenR (KQ.blockR (KQ.thenR (KQ.thenR (KQ.blockR (KQ.thenR (KQ.fin rfl (.tmp rfl (.tmp rfl .nil)) (fun w hw => ⟨.slice none 0 0, by rw [read_none c1 (rd_none hi hk (by rw [rd1, if_pos c3]))]; rfl, by rw [read_none c1 (rd_none hi hk (by rw [rd1, if_pos c3]))]; exact hw.none.rowN⟩)))))))
      · have h3 := of_decide_eq_false c3
        refine WC.skip ?_
        refine KQ.seq ?_
        refine WC.seq ?_
        refine WC.region ?_
        refine WO.val (.bld (c := cPart p0) (vs := []) bldPart rfl rfl) rfl ?_
        refine WO.al zer_36 rfl fun g1 => ?_
        refine WO.stW (k := 0) str_36 rfl rfl rfl rfl rfl rfl (by repeat constructor) ?_
        refine WO.nil ?_
        refine KQ.seq ?_
        refine WC.seq ?_
        refine WC.seq ?_
        refine WC.region ?_
        refine WO.val (.mv (.r rfl)) rfl ?_
        refine WO.val (.ixT Tryd.underlying9 (.r rfl) (.r rfl) (k := 0) (gD (by omega))) rfl ?_
        refine WO.nil ?_
        refine KQ.seq ?_
        refine WC.block ?_
        refine WC.seq ?_
        refine WC.region ?_
        refine WO.val (.bin (.r rfl) (.r rfl) rfl) rfl ?_
        refine WO.val (.asg (.r rfl)) rfl ?_
        refine WO.nil ?_
        refine KQ.seq ?_
        refine WC.cond rfl (fun c4 => ?_) (fun c4 => ?_)
        · refine WC.region ?_
          refine WO.val (.mv (.r rfl)) rfl ?_
          refine WO.val (.slL Tryd.underlying9 (.r rfl) (.r rfl) (a := 1) (by omega)) rfl ?_
          refine WO.callS rfl ent_15 rfl (fun w hw => specNumber (((splitOn 32 s).getD k []).drop 1) w) ?_
          refine WO.val (.faL fld_36_0 (.r rfl) rfl) rfl ?_
          refine WO.stB (k := 0) one_3 rfl rfl rfl rfl rfl (by repeat constructor) (by repeat constructor) ?_
          refine WO.nil ?_
          refine KQ.blockN (KQ.seq ?_)
          refine WC.region ?_
          refine WO.val (.mv (.r rfl)) rfl ?_
          refine WO.val (.ldW (k := 0) str_36 (.r rfl) rfl rfl) rfl ?_
          refine WO.bs (vs := [.agg (cPart ⟨num4 (((splitOn 32 s).getD k []).drop 1), 0, []⟩).toArray]) (c := (cPart ⟨num4 (((splitOn 32 s).getD k []).drop 1), 0, []⟩)) sli_22 rfl rfl rfl (by omega) (by intro v hv; simp at hv; subst hv; rfl) rfl (by omega) fun g9 => ?_
          refine WO.pull 3 (.s (.s (.s .z))) ?_
          refine WO.app (k := 1) (c := 1) (news := (cPart ⟨num4 (((splitOn 32 s).getD k []).drop 1), 0, []⟩)) sli_22 rfl rfl rfl rfl (fun w hw => has_blk (hw.blkAt (k := 1) rfl) rfl) (rPart.one (H := fun _ => none) (x := ⟨num4 (((splitOn 32 s).getD k []).drop 1), 0, []⟩) rfl) (by rw [maxLen_eq]; omega) (by omega) fun u9 => ?_
          refine WO.val (.asg (.r rfl)) rfl ?_
          refine WO.nil ?_
          refine KQ.blockN (KQ.seq ?_)
          refine WC.region ?_
          refine WO.val (.bin (.r rfl) (.r rfl) (pb_inc (by omega))) rfl ?_
          refine WO.val (.mv (.r rfl)) rfl ?_
          refine WO.nil ?_
          refine KQ.again (⟨(k + 1, acc ++ [⟨num4 (((splitOn 32 s).getD k []).drop 1), 0, []⟩], u9), rd_on hi hk (r_a c3 c4), by simp; omega, by dsimp only; omega⟩) (by dsimp only; omega) (by exact ⟨rfl, rfl, rfl, rfl, trivial⟩) (fun w hw => by have := (hw.pull 3 (.s (.s (.s .z)))).first2; simpa [-List.getD_eq_getElem?_getD] using this)
        · refine WC.seq ?_
          refine WC.region ?_
          refine WO.val (.bin (.r rfl) (.r rfl) rfl) rfl ?_
          refine WO.val (.asg (.r rfl)) rfl ?_
          refine WO.nil ?_
          refine KQ.seq ?_
          refine WC.cond rfl (fun c5 => ?_) (fun c5 => ?_)
          · refine WC.region ?_
            refine WO.val (.mv (.r rfl)) rfl ?_
            refine WO.val (.slL Tryd.underlying9 (.r rfl) (.r rfl) (a := 1) (by omega)) rfl ?_
            refine WO.callS rfl ent_15 rfl (fun w hw => specNumber (((splitOn 32 s).getD k []).drop 1) w) ?_
            refine WO.val (.faL fld_36_1 (.r rfl) rfl) rfl ?_
            refine WO.stB (k := 0) one_3 rfl rfl rfl rfl rfl (by repeat constructor) (by repeat constructor) ?_
            refine WO.nil ?_
            refine KQ.blockN (KQ.seq ?_)
            refine WC.region ?_
            refine WO.val (.mv (.r rfl)) rfl ?_
            refine WO.val (.ldW (k := 0) str_36 (.r rfl) rfl rfl) rfl ?_
            refine WO.bs (vs := [.agg (cPart ⟨0, num4 (((splitOn 32 s).getD k []).drop 1), []⟩).toArray]) (c := (cPart ⟨0, num4 (((splitOn 32 s).getD k []).drop 1), []⟩)) sli_22 rfl rfl rfl (by omega) (by intro v hv; simp at hv; subst hv; rfl) rfl (by omega) fun g9 => ?_
            refine WO.pull 3 (.s (.s (.s .z))) ?_
            refine WO.app (k := 1) (c := 1) (news := (cPart ⟨0, num4 (((splitOn 32 s).getD k []).drop 1), []⟩)) sli_22 rfl rfl rfl rfl (fun w hw => has_blk (hw.blkAt (k := 1) rfl) rfl) (rPart.one (H := fun _ => none) (x := ⟨0, num4 (((splitOn 32 s).getD k []).drop 1), []⟩) rfl) (by rw [maxLen_eq]; omega) (by omega) fun u9 => ?_
            refine WO.val (.asg (.r rfl)) rfl ?_
            refine WO.nil ?_
            refine KQ.blockN (KQ.seq ?_)
            refine WC.region ?_
            refine WO.val (.bin (.r rfl) (.r rfl) (pb_inc (by omega))) rfl ?_
            refine WO.val (.mv (.r rfl)) rfl ?_
            refine WO.nil ?_
            refine KQ.again (⟨(k + 1, acc ++ [⟨0, num4 (((splitOn 32 s).getD k []).drop 1), []⟩], u9), rd_on hi hk (r_b c3 c4 c5), by simp; omega, by dsimp only; omega⟩) (by dsimp only; omega) (by exact ⟨rfl, rfl, rfl, rfl, trivial⟩) (fun w hw => by have := (hw.pull 3 (.s (.s (.s .z)))).first2; simpa [-List.getD_eq_getElem?_getD] using this)
          · refine WC.seq ?_
            refine WC.region ?_
            refine WO.val (.bin (.r rfl) (.r rfl) rfl) rfl ?_
            refine WO.val (.asg (.r rfl)) rfl ?_
            refine WO.nil ?_
            refine KQ.seq ?_
            refine WC.cond rfl (fun c6 => ?_) (fun c6 => ?_)
            · refine WC.seq ?_
              refine WC.region ?_
              refine WO.val (.mv (.r rfl)) rfl ?_
              refine WO.val (.slL Tryd.underlying9 (.r rfl) (.r rfl) (a := 1) (by omega)) rfl ?_
              refine WO.callS rfl ent_16 rfl (fun w hw => specUntold (((splitOn 32 s).getD k []).drop 1) (by have := word_len 32 s k; rw [List.length_drop]; omega) w) ?_
              refine WO.val (.mv (.r rfl)) rfl ?_
              refine WO.val (.ext (.r rfl) rfl) rfl ?_
              refine WO.val (.ext (.r rfl) rfl) rfl ?_
              refine WO.val (.asg (.r rfl)) rfl ?_
              refine WO.val (.asg (.r rfl)) rfl ?_
              refine WO.nil ?_
              refine KQ.seq ?_
              refine WC.seq ?_
              refine WC.seq ?_
              refine WC.region ?_
              refine WO.val (.mv (.r rfl)) rfl ?_
              refine WO.val (.nt (.r rfl)) rfl ?_
              refine WO.nil ?_
              refine KQ.seq ?_
              refine WC.cond rfl (fun c7 => ?_) (fun c7 => ?_)
              · refine WC.seq ?_
                refine WC.region ?_
                refine WO.val (.asg (.r rfl)) rfl ?_
                refine WO.val (.asg (.r rfl)) rfl ?_
                refine WO.nil ?_
                refine KQ.seq ?_
                refine WC.ret ?_
                exact KQ.thenR (KQ.blockR (KQ.thenR (KQ.blockR (KQ.thenR (KQ.thenR (KQ.blockR (KQ.thenR (KQ.fin rfl (.tmp rfl (.tmp rfl .nil)) (fun w hw => ⟨.slice none 0 0, by rw [read_none c1 (rd_none hi hk (r_c0 (r_c c3 c4 c5 c6) c7))]; rfl, by rw [read_none c1 (rd_none hi hk (r_c0 (r_c c3 c4 c5 c6) c7))]; exact hw.none.rowN⟩)))))))))
              · refine WC.skip ?_
                refine KQ.seq ?_
                refine WC.region ?_
                refine WO.val (.mv (.r rfl)) rfl ?_
                refine WO.val (.faL fld_36_2 (.r rfl) rfl) rfl ?_
                refine WO.stB (k := 0) one_9 rfl rfl rfl rfl rfl (by repeat constructor) (by repeat constructor) ?_
                refine WO.nil ?_
                refine KQ.blockN (KQ.seq ?_)
                refine WC.region ?_
                refine WO.val (.mv (.r rfl)) rfl ?_
                refine WO.val (.ldW (k := 0) str_36 (.r rfl) rfl rfl) rfl ?_
                refine WO.bs (vs := [.agg (cPart ⟨0, 0, (untold (((splitOn 32 s).getD k []).drop 1)).getD []⟩).toArray]) (c := (cPart ⟨0, 0, (untold (((splitOn 32 s).getD k []).drop 1)).getD []⟩)) sli_22 rfl rfl rfl (by omega) (by intro v hv; simp at hv; subst hv; rfl) rfl (by omega) fun g9 => ?_
                refine WO.pull 3 (.s (.s (.s .z))) ?_
                refine WO.app (k := 1) (c := 1) (news := (cPart ⟨0, 0, (untold (((splitOn 32 s).getD k []).drop 1)).getD []⟩)) sli_22 rfl rfl rfl rfl (fun w hw => has_blk (hw.blkAt (k := 1) rfl) rfl) (rPart.one (H := fun _ => none) (x := ⟨0, 0, (untold (((splitOn 32 s).getD k []).drop 1)).getD []⟩) rfl) (by rw [maxLen_eq]; omega) (by omega) fun u9 => ?_
                refine WO.val (.asg (.r rfl)) rfl ?_
                refine WO.nil ?_
                refine KQ.blockN (KQ.seq ?_)
                refine WC.region ?_
                refine WO.val (.bin (.r rfl) (.r rfl) (pb_inc (by omega))) rfl ?_
                refine WO.val (.mv (.r rfl)) rfl ?_
                refine WO.nil ?_
                refine KQ.again (⟨(k + 1, acc ++ [⟨0, 0, (untold (((splitOn 32 s).getD k []).drop 1)).getD []⟩], u9), rd_on hi hk (r_c1 (r_c c3 c4 c5 c6) c7), by simp; omega, by dsimp only; omega⟩) (by dsimp only; omega) (by exact ⟨rfl, rfl, rfl, rfl, trivial⟩) (fun w hw => by have := (hw.pull 3 (.s (.s (.s .z)))).first2; simpa [-List.getD_eq_getElem?_getD] using this)
            · refine WC.seq ?_
              refine WC.region ?_
              refine WO.val (.asg (.r rfl)) rfl ?_
              refine WO.val (.asg (.r rfl)) rfl ?_
              refine WO.nil ?_
              refine KQ.seq ?_
              refine WC.ret ?_
              exact KQ.blockR (KQ.thenR (KQ.blockR (KQ.thenR (KQ.thenR (KQ.blockR (KQ.thenR (KQ.fin rfl (.tmp rfl (.tmp rfl .nil)) (fun w hw => ⟨.slice none 0 0, by rw [read_none c1 (rd_none hi hk (r_d c3 c4 c5 c6))]; rfl, by rw [read_none c1 (rd_none hi hk (r_d c3 c4 c5 c6))]; exact hw.none.rowN⟩))))))))
    · refine WC.fact (fun w hw => (hw.pull 1 (.s .z)).rowAny) fun hv => ?_
      obtain ⟨A1, c1x, rfl⟩ := hv
      refine WC.exit ?_
      refine KQ.thenX (KQ.thenX (KQ.blockX (KQ.seq ?_)))
      refine WC.seq ?_
      refine WC.seq ?_
      refine WC.region ?_
      refine WO.val (.mv (.r rfl)) rfl ?_
      refine WO.callS rfl ent_17 rfl (fun w hw => specGood acc A1 c1x w (Sat.rowLd rPart rfl (hw.pull 1 (.s .z)) rfl) (by omega)) ?_
      refine WO.val (.nt (.r rfl)) rfl ?_
      refine WO.nil ?_
      refine KQ.seq ?_
      refine WC.cond rfl (fun c8 => ?_) (fun c8 => ?_)
      · refine WC.seq ?_
        refine WC.region ?_
        refine WO.val (.asg (.r rfl)) rfl ?_
        refine WO.val (.asg (.r rfl)) rfl ?_
        refine WO.nil ?_
        refine KQ.seq ?_
        refine WC.ret ?_
        exact KQ.thenR (KQ.fin rfl (.tmp rfl (.tmp rfl .nil)) (fun w hw => ⟨.slice none 0 0, by rw [read_bad c1 (rd_done hi (ge_of_dec c2)) c8]; rfl, by rw [read_bad c1 (rd_done hi (ge_of_dec c2)) c8]; exact hw.none.rowN⟩))
      · refine WC.skip ?_
        refine KQ.seq ?_
        refine WC.seq ?_
        refine WC.region ?_
        refine WO.val (.mv (.r rfl)) rfl ?_
        refine WO.val (.asg (.r rfl)) rfl ?_
        refine WO.val (.asg (.r rfl)) rfl ?_
        refine WO.nil ?_
        refine KQ.seq ?_
        refine WC.ret ?_
        exact KQ.fin rfl (.tmp rfl (.tmp rfl .nil)) (fun w hw => ⟨.slice A1 acc.length c1x, by rw [read_ok c1 (rd_done hi (ge_of_dec c2)) c8]; rfl, by rw [read_ok c1 (rd_done hi (ge_of_dec c2)) c8]; exact (hw.pull 1 (.s .z)).first⟩)
end Go.Proofs.YtfnaplhjkapghaaDoor
