/- A part of the proofs of this seat: contracts of the functions that its statements reach. -/
import Derived.Test.YtfnaplhjkapghaaDoorT12
import Derived.Test.YtfnaplhjkapghaaDoorProg
set_option linter.unusedVariables false
set_option linter.unusedSimpArgs false
set_option maxRecDepth 4000
namespace Go.Proofs.YtfnaplhjkapghaaDoor
open Go Go.RowKit Go.Proofs.YtfnaplhjkapghaaDoor.Sp
theorem ent_18 : Ent Tryd.prog 18 := ent_of Tryd.prog Tryd.func18 rfl rfl
theorem ent_19 : Ent Tryd.prog 19 := ent_of Tryd.prog Tryd.func19 rfl rfl
theorem ent_20 : Ent Tryd.prog 20 := ent_of Tryd.prog Tryd.func20 rfl rfl
theorem ent_21 : Ent Tryd.prog 21 := ent_of Tryd.prog Tryd.func21 rfl rfl

theorem ne_len {w : List UInt8} (h : (w == []) = false) : 1 ≤ w.length := by
  cases w with
  | nil => cases h
  | cons x r => simp
def decOk (s : List UInt8) : Bool := match decI s with | none => false | some t => codedL t == s
def rdI (w : List UInt8) : Option Part :=
  if (w == []) = true then none
  else if ((((w.getD 0 0).toNat : Int) == 61) && decide (num4 (w.drop 1) > 0)) = true then some ⟨num4 (w.drop 1), 0, []⟩
  else if ((((w.getD 0 0).toNat : Int) == 45) && decide (num4 (w.drop 1) > 0)) = true then some ⟨0, num4 (w.drop 1), []⟩
  else if (((w.getD 0 0).toNat : Int) == 43) = true then (if decOk (w.drop 1) = true then some ⟨0, 0, (decI (w.drop 1)).getD []⟩ else none)
  else none
def rdAllI : List (List UInt8) → Option (List Part)
  | [] => some []
  | w :: ws => match rdI w with | none => none | some p => (rdAllI ws).map (p :: ·)
def readI (s : List UInt8) : Option (List Part) :=
  if (s == [46]) = true then some [] else match rdAllI (splitOn 32 s) with | none => none | some ps => if good ps = true then some ps else none
theorem rdI_none {W : List (List UInt8)} {k : Nat} {acc : List Part} (hi : rdAllI W = (rdAllI (W.drop k)).map (acc ++ ·)) (hk : k < W.length) (h : rdI (W.getD k []) = none) : rdAllI W = none := by rw [hi, dropW hk, rdAllI, h]; rfl
theorem rdI_on {W : List (List UInt8)} {k : Nat} {acc : List Part} {p : Part} (hi : rdAllI W = (rdAllI (W.drop k)).map (acc ++ ·)) (hk : k < W.length) (h : rdI (W.getD k []) = some p) : rdAllI W = (rdAllI (W.drop (k + 1))).map ((acc ++ [p]) ++ ·) := by
  rw [hi, dropW hk, rdAllI, h]; exact mapP_app acc p
theorem rdI_done {W : List (List UInt8)} {k : Nat} {acc : List Part} (hi : rdAllI W = (rdAllI (W.drop k)).map (acc ++ ·)) (hk : W.length ≤ k) : rdAllI W = some acc := by rw [hi, List.drop_of_length_le hk]; simp [rdAllI]
theorem readI_dot {s : List UInt8} (h : (s == [46]) = true) : readI s = some [] := by rw [readI, if_pos h]
theorem readI_none {s : List UInt8} (h : (s == [46]) = false) (h2 : rdAllI (splitOn 32 s) = none) : readI s = none := by rw [readI, if_neg (by rw [h]; decide), h2]
theorem readI_bad {s : List UInt8} {ps : List Part} (h : (s == [46]) = false) (h2 : rdAllI (splitOn 32 s) = some ps) (h3 : (!good ps) = true) : readI s = none := by rw [readI, if_neg (by rw [h]; decide), h2]; dsimp only; rw [if_neg (by simpa using h3)]
theorem readI_ok {s : List UInt8} {ps : List Part} (h : (s == [46]) = false) (h2 : rdAllI (splitOn 32 s) = some ps) (h3 : (!good ps) = false) : readI s = some ps := by rw [readI, if_neg (by rw [h]; decide), h2]; dsimp only; rw [if_pos (by simpa using h3)]
theorem i_a {w : List UInt8} (c3 : (w == []) = false) (c4 : ((((w.getD 0 0).toNat : Int) == 61) && decide (num4 (w.drop 1) > 0)) = true) : rdI w = some ⟨num4 (w.drop 1), 0, []⟩ := by rw [rdI, if_neg (by rw [c3]; decide), if_pos c4]
theorem i_b {w : List UInt8} (c3 : (w == []) = false) (c4 : ((((w.getD 0 0).toNat : Int) == 61) && decide (num4 (w.drop 1) > 0)) = false) (c5 : ((((w.getD 0 0).toNat : Int) == 45) && decide (num4 (w.drop 1) > 0)) = true) : rdI w = some ⟨0, num4 (w.drop 1), []⟩ := by
  rw [rdI, if_neg (by rw [c3]; decide), if_neg (by rw [c4]; decide), if_pos c5]
theorem i_c {w : List UInt8} (c3 : (w == []) = false) (c4 : ((((w.getD 0 0).toNat : Int) == 61) && decide (num4 (w.drop 1) > 0)) = false) (c5 : ((((w.getD 0 0).toNat : Int) == 45) && decide (num4 (w.drop 1) > 0)) = false) (c6 : (((w.getD 0 0).toNat : Int) == 43) = true) : rdI w = (if decOk (w.drop 1) = true then some ⟨0, 0, (decI (w.drop 1)).getD []⟩ else none) := by
  rw [rdI, if_neg (by rw [c3]; decide), if_neg (by rw [c4]; decide), if_neg (by rw [c5]; decide), if_pos c6]
theorem i_d {w : List UInt8} (c3 : (w == []) = false) (c4 : ((((w.getD 0 0).toNat : Int) == 61) && decide (num4 (w.drop 1) > 0)) = false) (c5 : ((((w.getD 0 0).toNat : Int) == 45) && decide (num4 (w.drop 1) > 0)) = false) (c6 : (((w.getD 0 0).toNat : Int) == 43) = false) : rdI w = none := by
  rw [rdI, if_neg (by rw [c3]; decide), if_neg (by rw [c4]; decide), if_neg (by rw [c5]; decide), if_neg (by rw [c6]; decide)]
theorem i_c0 {w : List UInt8} {x : Option Part} (h : rdI w = (if decOk (w.drop 1) = true then x else none)) (c7 : (!decOk (w.drop 1)) = true) : rdI w = none := by rw [h, if_neg (by simpa using c7)]
theorem i_c1 {w : List UInt8} {x : Option Part} (h : rdI w = (if decOk (w.drop 1) = true then x else none)) (c7 : (!decOk (w.drop 1)) = false) : rdI w = x := by rw [h, if_pos (by simpa using c7)]
theorem decI_len : ∀ (n : Nat) (s t : List UInt8), s.length ≤ n → decI s = some t → t.length ≤ s.length
  | _, [], t, _, h => by cases h; simp
  | 0, b :: r, t, hn, h => by simp at hn
  | n + 1, b :: r, t, hn, h => by
    simp only [List.length_cons] at hn
    rw [decI_cons] at h
    split at h
    · cases hr : decI r with
      | none => rw [hr] at h; cases h
      | some u => rw [hr] at h; cases h; have := decI_len n r u (by omega) hr; simp; omega
    · rcases r with _ | ⟨x, _ | ⟨y, r⟩⟩
      · cases h
      · cases h
      · dsimp only at h
        split at h
        · cases h
        · cases hr : decI r with
          | none => rw [hr] at h; cases h
          | some u => rw [hr] at h; cases h; simp only [List.length_cons] at hn ⊢; have := decI_len n r u (by omega) hr; omega
theorem decG_len (s : List UInt8) : ((decI s).getD []).length ≤ s.length := by
  cases h : decI s with
  | none => simp
  | some t => exact decI_len s.length s t (Nat.le_refl _) h

/-! impl.ReadChangeText -/
theorem implRead (s : List UInt8) (hs : s.length ≤ 1048576) (w : World) (hg : GL w) : CP Tryd.prog 6 [str s] w (fun v : Value => .tuple #[v, .bool (readI s).isSome]) (fun v => [Row 36 3 v ((readI s).getD []).length (((readI s).getD []).flatMap cPart)]) := by
  have hsl := splitOn_len 32 s
  refine enter Tryd.func6 rfl rfl rfl (Sat.start w) ?_
  simp only [mkL]
  refine WC.seq ?_
  refine WC.region ?_
  refine WO.val (.asg (.r rfl)) rfl ?_
  refine WO.val (.asg (.r rfl)) rfl ?_
  refine WO.nil ?_
  refine KQ.seq ?_
  refine WC.seq ?_
  refine WC.seq ?_
  refine WC.region ?_
  refine WO.val (.mv (.r rfl)) rfl ?_
  refine WO.val (.eqS (.r rfl) (.r rfl)) rfl ?_
  refine WO.nil ?_
  refine KQ.seq ?_
  refine WC.cond rfl (fun c1 => ?_) (fun c1 => ?_)
  · refine WC.seq ?_
    refine WC.region ?_
    refine WO.bs0 sli_22 rfl fun g1 => ?_
    refine WO.val (.asg (.r rfl)) rfl ?_
    refine WO.val (.asg (.r rfl)) rfl ?_
    refine WO.nil ?_
    refine KQ.seq ?_
    refine WC.ret ?_
    exact KQ.thenR (KQ.fin rfl (.tmp rfl (.tmp rfl .nil)) (fun w hw => ⟨.slice (some ⟨g1, 0, none⟩) 0 0, by rw [readI_dot c1]; rfl, by rw [readI_dot c1]; exact hw⟩))
  · refine WC.skip ?_
    refine KQ.seq ?_
    refine WC.seq ?_
    refine WC.region ?_
    refine WO.bs0 sli_22 rfl fun g1 => ?_
    refine WO.val (.asg (.r rfl)) rfl ?_
    refine WO.nil ?_
    refine KQ.seq ?_
    refine WC.seq ?_
    refine WC.seq ?_
    refine WC.region ?_
    refine WO.val (.mv (.r rfl)) rfl ?_
    refine WO.callP rfl ent_18 rfl (fun w hw => splitC s hs w (hg.mono hw)) fun u => ?_
    refine WO.fact (fun w hw => hw.rowSome (splitOn_pos 32 s)) fun hu => ?_
    obtain ⟨g0, c0, rfl, _, _⟩ := hu
    refine WO.val (.len sli_33 (.r rfl)) rfl ?_
    refine WO.val (.mv (.r rfl)) rfl ?_
    refine WO.nil ?_
    refine KQ.seq ?_
    refine WC.block ?_
    refine WC.loop (σ := {p : Nat × List Part × Value // rdAllI (splitOn 32 s) = (rdAllI ((splitOn 32 s).drop p.1)).map (p.2.1 ++ ·) ∧ p.2.1.length ≤ p.1 ∧ p.1 ≤ (splitOn 32 s).length ∧ ∀ x ∈ p.2.1, x.put.length ≤ s.length}) (fun q => [(4, q.1.2.2), (17, .slice (some ⟨g0, 0, none⟩) (splitOn 32 s).length c0), (18, .int .i64 ((splitOn 32 s).length : Nat)), (19, .int .i64 (q.1.1 : Nat))]) (fun q => [Row 9 1 (.slice (some ⟨g0, 0, none⟩) (splitOn 32 s).length c0) (splitOn 32 s).length ((splitOn 32 s).flatMap cStr), Row 36 3 q.1.2.2 q.1.2.1.length (q.1.2.1.flatMap cPart)]) (fun q => (splitOn 32 s).length - q.1.1) (⟨(0, [], .slice (some ⟨g1, 0, none⟩) 0 0), by simp⟩) (by exact ⟨rfl, rfl, rfl, rfl, trivial⟩) (fun w hw => hw) ?_
    rintro ⟨⟨k, acc, v⟩, hi, hn, hk0, hpq⟩
    dsimp only at hi hn hk0 hpq
    dsimp only
    refine WC.seq ?_
    refine WC.region ?_
    refine WO.val (.bin (.r rfl) (.r rfl) rfl) rfl ?_
    refine WO.nil ?_
    refine KQ.seq ?_
    refine WC.seq ?_
    refine WC.cond rfl (fun c2 => ?_) (fun c2 => ?_)
    · have hk := lt_of_dec c2
      refine WC.skip ?_
      refine KQ.seq ?_
      refine WC.seq ?_
      refine WC.block ?_
      refine WC.seq ?_
      refine WC.region ?_
      refine WO.val (.ixn sli_33 (.r rfl) (.r rfl) hk) rfl ?_
      refine WO.val (.ld one_9 (.r rfl) (fun w hw => rowWord hw hk)) rfl ?_
      refine WO.val (.asg (.r rfl)) rfl ?_
      refine WO.nil ?_
      refine KQ.seq ?_
      refine WC.seq ?_
      refine WC.seq ?_
      refine WC.region ?_
      refine WO.val (.mv (.r rfl)) rfl ?_
      refine WO.val (.eqS (.r rfl) (.r rfl)) rfl ?_
      refine WO.nil ?_
      refine KQ.seq ?_
      refine WC.cond rfl (fun c3 => ?_) (fun c3 => ?_)
      · refine WC.seq ?_
        refine WC.region ?_
        refine WO.val (.asg (.r rfl)) rfl ?_
        refine WO.val (.asg (.r rfl)) rfl ?_
        refine WO.nil ?_
        refine KQ.seq ?_
        refine WC.ret ?_
        exact KQ.thenR (KQ.blockR (KQ.thenR (KQ.thenR (KQ.blockR (KQ.thenR (KQ.fin rfl (.tmp rfl (.tmp rfl .nil)) (fun w hw => ⟨.slice none 0 0, by rw [readI_none c1 (rdI_none hi hk (by rw [rdI, if_pos c3]))]; rfl, by rw [readI_none c1 (rdI_none hi hk (by rw [rdI, if_pos c3]))]; exact hw.none.rowN⟩)))))))
      · have h3 := ne_len c3
        refine WC.skip ?_
        refine KQ.seq ?_
        refine WC.seq ?_
        refine WC.region ?_
        refine WO.val (.mv (.r rfl)) rfl ?_
        refine WO.val (.slL Tryd.underlying9 (.r rfl) (.r rfl) (a := 1) (by omega)) rfl ?_
        refine WO.val (.bld (c := cPart p0) (vs := []) bldPart rfl rfl) rfl ?_
        refine WO.al zer_36 rfl fun g1 => ?_
        refine WO.val (.asg (.r rfl)) rfl ?_
        refine WO.stW (k := 0) str_36 rfl rfl rfl rfl rfl rfl (by repeat constructor) ?_
        refine WO.nil ?_
        refine KQ.seq ?_
        refine WC.seq ?_
        refine WC.region ?_
        refine WO.val (.mv (.r rfl)) rfl ?_
        refine WO.callS rfl ent_19 rfl (fun w hw => implNum (((splitOn 32 s).getD k []).drop 1) (by have := word_len 32 s k; rw [List.length_drop]; omega) w (hg.mono hw)) ?_
        refine WO.val (.asg (.r rfl)) rfl ?_
        refine WO.nil ?_
        refine KQ.seq ?_
        refine WC.seq ?_
        refine WC.block ?_
        refine WC.seq ?_
        refine WC.region ?_
        refine WO.val (.mv (.r rfl)) rfl ?_
        refine WO.val (.ixT Tryd.underlying9 (.r rfl) (.r rfl) (k := 0) (gD (by omega))) rfl ?_
        refine WO.val (.bin (.r rfl) (.r rfl) rfl) rfl ?_
        refine WO.val (.mv (.r rfl)) rfl ?_
        refine WO.gd rfl rfl rfl (fun h => (.mv (.r rfl))) ?_
        refine WO.gd rfl rfl rfl (fun h => (.bin (.g h rfl) (.r rfl) rfl)) ?_
        refine WO.val (.and rfl rfl) rfl ?_
        refine WO.val (.asg (.r rfl)) rfl ?_
        refine WO.nil ?_
        refine KQ.seq ?_
        refine WC.cond rfl (fun c4 => ?_) (fun c4 => ?_)
        · refine WC.region ?_
          refine WO.val (.mv (.r rfl)) rfl ?_
          refine WO.val (.faL fld_36_0 (.r rfl) rfl) rfl ?_
          refine WO.stB (k := 0) one_3 rfl rfl rfl rfl rfl (by repeat constructor) (by repeat constructor) ?_
          refine WO.nil ?_
          refine KQ.blockN (KQ.seq ?_)
          refine WC.region ?_
          refine WO.val (.mv (.r rfl)) rfl ?_
          refine WO.val (.ldW (k := 0) str_36 (.r rfl) rfl rfl) rfl ?_
          refine WO.bs (vs := [.agg (cPart ⟨num4 (((splitOn 32 s).getD k []).drop 1), 0, []⟩).toArray]) (c := (cPart ⟨num4 (((splitOn 32 s).getD k []).drop 1), 0, []⟩)) sli_22 rfl rfl rfl (by omega) (by intro v hv; simp at hv; subst hv; rfl) rfl (by omega) fun g9 => ?_
          refine WO.pull 3 (.s (.s (.s .z))) ?_
          refine WO.app (k := 1) (c := 1) (news := (cPart ⟨num4 (((splitOn 32 s).getD k []).drop 1), 0, []⟩)) sli_22 rfl rfl rfl rfl (fun w hw => has_blk (hw.blkAt (k := 1) rfl) rfl) (rPart.one (H := fun _ => none) (x := ⟨num4 (((splitOn 32 s).getD k []).drop 1), 0, []⟩) rfl) (by rw [maxLen_eq]; omega) (by omega) fun u9 => ?_
          refine WO.val (.asg (.r rfl)) rfl ?_
          refine WO.nil ?_
          refine KQ.blockN (KQ.seq ?_)
          refine WC.region ?_
          refine WO.val (.bin (.r rfl) (.r rfl) (pb_inc (by omega))) rfl ?_
          refine WO.val (.mv (.r rfl)) rfl ?_
          refine WO.nil ?_
          refine KQ.again (⟨(k + 1, acc ++ [⟨num4 (((splitOn 32 s).getD k []).drop 1), 0, []⟩], u9), rdI_on hi hk (i_a c3 c4), by simp; omega, by dsimp only; omega, fun x hx => by rcases List.mem_append.1 hx with hx | hx; exact hpq x hx; rw [List.mem_singleton.1 hx]; exact (Nat.zero_le _)⟩) (by dsimp only; omega) (by exact ⟨rfl, rfl, rfl, rfl, trivial⟩) (fun w hw => by have := (hw.pull 3 (.s (.s (.s .z)))).first2; simpa [-List.getD_eq_getElem?_getD] using this)
        · refine WC.seq ?_
          refine WC.region ?_
          refine WO.val (.mv (.r rfl)) rfl ?_
          refine WO.val (.ixT Tryd.underlying9 (.r rfl) (.r rfl) (k := 0) (gD (by omega))) rfl ?_
          refine WO.val (.bin (.r rfl) (.r rfl) rfl) rfl ?_
          refine WO.val (.mv (.r rfl)) rfl ?_
          refine WO.gd rfl rfl rfl (fun h => (.mv (.r rfl))) ?_
          refine WO.gd rfl rfl rfl (fun h => (.bin (.g h rfl) (.r rfl) rfl)) ?_
          refine WO.val (.and rfl rfl) rfl ?_
          refine WO.val (.asg (.r rfl)) rfl ?_
          refine WO.nil ?_
          refine KQ.seq ?_
          refine WC.cond rfl (fun c5 => ?_) (fun c5 => ?_)
          · refine WC.region ?_
            refine WO.val (.mv (.r rfl)) rfl ?_
            refine WO.val (.faL fld_36_1 (.r rfl) rfl) rfl ?_
            refine WO.stB (k := 0) one_3 rfl rfl rfl rfl rfl (by repeat constructor) (by repeat constructor) ?_
            refine WO.nil ?_
            refine KQ.blockN (KQ.seq ?_)
            refine WC.region ?_
            refine WO.val (.mv (.r rfl)) rfl ?_
            refine WO.val (.ldW (k := 0) str_36 (.r rfl) rfl rfl) rfl ?_
            refine WO.bs (vs := [.agg (cPart ⟨0, num4 (((splitOn 32 s).getD k []).drop 1), []⟩).toArray]) (c := (cPart ⟨0, num4 (((splitOn 32 s).getD k []).drop 1), []⟩)) sli_22 rfl rfl rfl (by omega) (by intro v hv; simp at hv; subst hv; rfl) rfl (by omega) fun g9 => ?_
            refine WO.pull 3 (.s (.s (.s .z))) ?_
            refine WO.app (k := 1) (c := 1) (news := (cPart ⟨0, num4 (((splitOn 32 s).getD k []).drop 1), []⟩)) sli_22 rfl rfl rfl rfl (fun w hw => has_blk (hw.blkAt (k := 1) rfl) rfl) (rPart.one (H := fun _ => none) (x := ⟨0, num4 (((splitOn 32 s).getD k []).drop 1), []⟩) rfl) (by rw [maxLen_eq]; omega) (by omega) fun u9 => ?_
            refine WO.val (.asg (.r rfl)) rfl ?_
            refine WO.nil ?_
            refine KQ.blockN (KQ.seq ?_)
            refine WC.region ?_
            refine WO.val (.bin (.r rfl) (.r rfl) (pb_inc (by omega))) rfl ?_
            refine WO.val (.mv (.r rfl)) rfl ?_
            refine WO.nil ?_
            refine KQ.again (⟨(k + 1, acc ++ [⟨0, num4 (((splitOn 32 s).getD k []).drop 1), []⟩], u9), rdI_on hi hk (i_b c3 c4 c5), by simp; omega, by dsimp only; omega, fun x hx => by rcases List.mem_append.1 hx with hx | hx; exact hpq x hx; rw [List.mem_singleton.1 hx]; exact (Nat.zero_le _)⟩) (by dsimp only; omega) (by exact ⟨rfl, rfl, rfl, rfl, trivial⟩) (fun w hw => by have := (hw.pull 3 (.s (.s (.s .z)))).first2; simpa [-List.getD_eq_getElem?_getD] using this)
          · refine WC.seq ?_
            refine WC.region ?_
            refine WO.val (.mv (.r rfl)) rfl ?_
            refine WO.val (.ixT Tryd.underlying9 (.r rfl) (.r rfl) (k := 0) (gD (by omega))) rfl ?_
            refine WO.val (.bin (.r rfl) (.r rfl) rfl) rfl ?_
            refine WO.val (.asg (.r rfl)) rfl ?_
            refine WO.nil ?_
            refine KQ.seq ?_
            refine WC.cond rfl (fun c6 => ?_) (fun c6 => ?_)
            · refine WC.seq ?_
              refine WC.region ?_
              refine WO.val (.mv (.r rfl)) rfl ?_
              refine WO.callS rfl ent_20 rfl (fun w hw => implDec (((splitOn 32 s).getD k []).drop 1) (by have := word_len 32 s k; rw [List.length_drop]; omega) w (hg.mono hw)) ?_
              refine WO.val (.mv (.r rfl)) rfl ?_
              refine WO.val (.ext (.r rfl) rfl) rfl ?_
              refine WO.val (.ext (.r rfl) rfl) rfl ?_
              refine WO.val (.asg (.r rfl)) rfl ?_
              refine WO.val (.asg (.r rfl)) rfl ?_
              refine WO.nil ?_
              refine KQ.seq ?_
              refine WC.seq ?_
              refine WC.seq ?_
              refine WC.region ?_
              refine WO.val (.mv (.r rfl)) rfl ?_
              refine WO.val (.nt (.r rfl)) rfl ?_
              refine WO.nil ?_
              refine KQ.seq ?_
              refine WC.cond rfl (fun c7 => ?_) (fun c7 => ?_)
              · have c7 : (!decOk (((splitOn 32 s).getD k []).drop 1)) = true := c7
                refine WC.seq ?_
                refine WC.region ?_
                refine WO.val (.asg (.r rfl)) rfl ?_
                refine WO.val (.asg (.r rfl)) rfl ?_
                refine WO.nil ?_
                refine KQ.seq ?_
                refine WC.ret ?_
                exact KQ.thenR (KQ.blockR (KQ.thenR (KQ.blockR (KQ.thenR (KQ.thenR (KQ.blockR (KQ.thenR (KQ.fin rfl (.tmp rfl (.tmp rfl .nil)) (fun w hw => ⟨.slice none 0 0, by rw [readI_none c1 (rdI_none hi hk (i_c0 (i_c c3 c4 c5 c6) c7))]; rfl, by rw [readI_none c1 (rdI_none hi hk (i_c0 (i_c c3 c4 c5 c6) c7))]; exact hw.none.rowN⟩)))))))))
              · have c7 : (!decOk (((splitOn 32 s).getD k []).drop 1)) = false := c7
                refine WC.skip ?_
                refine KQ.seq ?_
                refine WC.region ?_
                refine WO.val (.mv (.r rfl)) rfl ?_
                refine WO.val (.faL fld_36_2 (.r rfl) rfl) rfl ?_
                refine WO.stB (k := 0) one_9 rfl rfl rfl rfl rfl (by repeat constructor) (by repeat constructor) ?_
                refine WO.nil ?_
                refine KQ.blockN (KQ.seq ?_)
                refine WC.region ?_
                refine WO.val (.mv (.r rfl)) rfl ?_
                refine WO.val (.ldW (k := 0) str_36 (.r rfl) rfl rfl) rfl ?_
                refine WO.bs (vs := [.agg (cPart ⟨0, 0, (decI (((splitOn 32 s).getD k []).drop 1)).getD []⟩).toArray]) (c := (cPart ⟨0, 0, (decI (((splitOn 32 s).getD k []).drop 1)).getD []⟩)) sli_22 rfl rfl rfl (by omega) (by intro v hv; simp at hv; subst hv; rfl) rfl (by omega) fun g9 => ?_
                refine WO.pull 3 (.s (.s (.s .z))) ?_
                refine WO.app (k := 1) (c := 1) (news := (cPart ⟨0, 0, (decI (((splitOn 32 s).getD k []).drop 1)).getD []⟩)) sli_22 rfl rfl rfl rfl (fun w hw => has_blk (hw.blkAt (k := 1) rfl) rfl) (rPart.one (H := fun _ => none) (x := ⟨0, 0, (decI (((splitOn 32 s).getD k []).drop 1)).getD []⟩) rfl) (by rw [maxLen_eq]; omega) (by omega) fun u9 => ?_
                refine WO.val (.asg (.r rfl)) rfl ?_
                refine WO.nil ?_
                refine KQ.blockN (KQ.seq ?_)
                refine WC.region ?_
                refine WO.val (.bin (.r rfl) (.r rfl) (pb_inc (by omega))) rfl ?_
                refine WO.val (.mv (.r rfl)) rfl ?_
                refine WO.nil ?_
                refine KQ.again (⟨(k + 1, acc ++ [⟨0, 0, (decI (((splitOn 32 s).getD k []).drop 1)).getD []⟩], u9), rdI_on hi hk (i_c1 (i_c c3 c4 c5 c6) c7), by simp; omega, by dsimp only; omega, fun x hx => by rcases List.mem_append.1 hx with hx | hx; exact hpq x hx; rw [List.mem_singleton.1 hx]; exact (by have := decG_len (((splitOn 32 s).getD k []).drop 1); have h2 := word_len 32 s k; rw [List.length_drop] at this; dsimp only; omega)⟩) (by dsimp only; omega) (by exact ⟨rfl, rfl, rfl, rfl, trivial⟩) (fun w hw => by have := (hw.pull 3 (.s (.s (.s .z)))).first2; simpa [-List.getD_eq_getElem?_getD] using this)
            · refine WC.seq ?_
              refine WC.region ?_
              refine WO.val (.asg (.r rfl)) rfl ?_
              refine WO.val (.asg (.r rfl)) rfl ?_
              refine WO.nil ?_
              refine KQ.seq ?_
              refine WC.ret ?_
              exact KQ.blockR (KQ.thenR (KQ.blockR (KQ.thenR (KQ.thenR (KQ.blockR (KQ.thenR (KQ.fin rfl (.tmp rfl (.tmp rfl .nil)) (fun w hw => ⟨.slice none 0 0, by rw [readI_none c1 (rdI_none hi hk (i_d c3 c4 c5 c6))]; rfl, by rw [readI_none c1 (rdI_none hi hk (i_d c3 c4 c5 c6))]; exact hw.none.rowN⟩))))))))
    · refine WC.fact (fun w hw => (hw.pull 1 (.s .z)).rowAny) fun hv => ?_
      obtain ⟨A1, c1x, rfl⟩ := hv
      refine WC.exit ?_
      refine KQ.thenX (KQ.thenX (KQ.blockX (KQ.seq ?_)))
      refine WC.seq ?_
      refine WC.seq ?_
      refine WC.region ?_
      refine WO.val (.mv (.r rfl)) rfl ?_
      refine WO.callS rfl ent_21 rfl (fun w hw => implGood acc A1 c1x w (Sat.rowLd rPart rfl (hw.pull 1 (.s .z)) rfl) (by omega) (fun p hp => Nat.le_trans (hpq p hp) (by omega))) ?_
      refine WO.val (.nt (.r rfl)) rfl ?_
      refine WO.nil ?_
      refine KQ.seq ?_
      refine WC.cond rfl (fun c8 => ?_) (fun c8 => ?_)
      · refine WC.seq ?_
        refine WC.region ?_
        refine WO.val (.asg (.r rfl)) rfl ?_
        refine WO.val (.asg (.r rfl)) rfl ?_
        refine WO.nil ?_
        refine KQ.seq ?_
        refine WC.ret ?_
        exact KQ.thenR (KQ.fin rfl (.tmp rfl (.tmp rfl .nil)) (fun w hw => ⟨.slice none 0 0, by rw [readI_bad c1 (rdI_done hi (ge_of_dec c2)) c8]; rfl, by rw [readI_bad c1 (rdI_done hi (ge_of_dec c2)) c8]; exact hw.none.rowN⟩))
      · refine WC.skip ?_
        refine KQ.seq ?_
        refine WC.seq ?_
        refine WC.region ?_
        refine WO.val (.mv (.r rfl)) rfl ?_
        refine WO.val (.asg (.r rfl)) rfl ?_
        refine WO.val (.asg (.r rfl)) rfl ?_
        refine WO.nil ?_
        refine KQ.seq ?_
        refine WC.ret ?_
        exact KQ.fin rfl (.tmp rfl (.tmp rfl .nil)) (fun w hw => ⟨.slice A1 acc.length c1x, by rw [readI_ok c1 (rdI_done hi (ge_of_dec c2)) c8]; rfl, by rw [readI_ok c1 (rdI_done hi (ge_of_dec c2)) c8]; exact (hw.pull 1 (.s .z)).first⟩)
end Go.Proofs.YtfnaplhjkapghaaDoor
