/- A part of the proofs of this seat: contracts of the functions that its statements reach. -/
import Derived.Test.YtfnaplhjkapghaaDoorT1
import Derived.Test.YtfnaplhjkapghaaDoorProg
set_option linter.unusedVariables false
set_option linter.unusedSimpArgs false
set_option maxRecDepth 4000
namespace Go.Proofs.YtfnaplhjkapghaaDoor
open Go Go.RowKit Go.Proofs.YtfnaplhjkapghaaDoor.Sp
theorem sli_28 : Sli Tryd.prog 28 5 1 1 (.int .u8 0) := .of Tryd.underlying28 (by kernel_rfl) rfl (by decide)
theorem ent_27 : Ent Tryd.prog 27 := ent_of Tryd.prog Tryd.func27 rfl rfl
theorem ent_28 : Ent Tryd.prog 28 := ent_of Tryd.prog Tryd.func28 rfl rfl

theorem pb_add2 {k : Nat} (h : k + 2 ≤ 9223372036854775807) : pbin .add (.int .i64 (k : Int)) (.int .i64 2) = some (.int .i64 ((k + 2 : Nat) : Int)) := by
  show some (Value.int .i64 (IntKind.i64.wrap ((k : Int) + 2))) = _
  rw [wrap_in (by omega) (by omega)]; rfl
theorem unt_plain {s : List UInt8} {k : Nat} (hk : k < s.length) (hp : plain (s.getD k 0) = true) : untold (s.drop k) = (untold (s.drop (k + 1))).map (s.getD k 0 :: ·) := by
  rw [drop_gD hk, untold_cons, if_pos hp]
theorem unt_none {s : List UInt8} {k : Nat} {acc : List UInt8} (hi : untold s = (untold (s.drop k)).map (acc ++ ·)) (h : untold (s.drop k) = none) : untold s = none := by rw [hi, h]; rfl
theorem unt_fail {s : List UInt8} {k : Nat} (hk : k < s.length) (hp : plain (s.getD k 0) = false)
    (h : ((((((s.getD k 0).toNat : Int) != 37) || decide (((k + 2 : Nat) : Int) ≥ (s.length : Int))) || decide (hexv (s.getD (k + 1) 0) < 0)) || decide (hexv (s.getD (k + 2) 0) < 0)) = true) : untold (s.drop k) = none := by
  rw [drop_gD hk, untold_cons, if_neg (by rw [hp]; decide)]
  by_cases h2 : k + 2 < s.length
  · rw [drop_gD (show k + 1 < s.length by omega), drop_gD (show k + 1 + 1 < s.length by omega)]
    show (if _ then none else _) = none
    rw [if_pos]
    have e : decide (((k + 2 : Nat) : Int) ≥ (s.length : Int)) = false := by simp; omega
    rw [e, Bool.or_false] at h
    have e2 : (((s.getD k 0).toNat : Int) != 37) = !((s.getD k 0).toNat == 37) := by
      by_cases hh : (s.getD k 0).toNat = 37
      · rw [hh]; rfl
      · have h1 : ((s.getD k 0).toNat == 37) = false := by simpa using hh
        rw [h1]; simp only [bne_iff_ne, ne_eq, Bool.not_false]; omega
    rw [e2] at h; exact h
  · by_cases h3 : k + 1 < s.length
    · rw [drop_gD h3, List.drop_of_length_le (show s.length ≤ k + 1 + 1 by omega)]
    · rw [List.drop_of_length_le (show s.length ≤ k + 1 by omega)]
theorem unt_three {s : List UInt8} {k : Nat} (hk : k + 2 < s.length) (hp : plain (s.getD k 0) = false)
    (h : ((((((s.getD k 0).toNat : Int) != 37) || decide (((k + 2 : Nat) : Int) ≥ (s.length : Int))) || decide (hexv (s.getD (k + 1) 0) < 0)) || decide (hexv (s.getD (k + 2) 0) < 0)) = false) :
    untold (s.drop k) = if plain (UInt8.ofNat (16 * hexv (s.getD (k + 1) 0) + hexv (s.getD (k + 2) 0)).toNat) = true then none else (untold (s.drop (k + 2 + 1))).map (UInt8.ofNat (16 * hexv (s.getD (k + 1) 0) + hexv (s.getD (k + 2) 0)).toNat :: ·) := by
  rw [drop_gD (show k < s.length by omega), untold_cons, if_neg (by rw [hp]; decide)]
  rw [drop_gD (show k + 1 < s.length by omega), drop_gD (show k + 1 + 1 < s.length by omega)]
  dsimp only
  rw [if_neg]
  rw [Bool.or_eq_false_iff, Bool.or_eq_false_iff, Bool.or_eq_false_iff] at h
  rw [h.1.2, h.2]
  have := h.1.1.1
  simp only [bne_eq_false_iff_eq] at this
  have e : (s.getD k 0).toNat = 37 := by omega
  rw [e]; decide
theorem map_app {o : Option (List UInt8)} (acc : List UInt8) (b : UInt8) : (o.map (b :: ·)).map (acc ++ ·) = o.map ((acc ++ [b]) ++ ·) := by cases o <;> simp
theorem unt_done {s acc : List UInt8} {k : Nat} (hi : untold s = (untold (s.drop k)).map (acc ++ ·)) (hk : s.length ≤ k) : untold s = some acc := by rw [hi, List.drop_of_length_le hk]; simp [untold]

/-! spec.l14Untold -/
theorem specUntold (s : List UInt8) (hs : s.length ≤ 1048576) (w : World) : CV Tryd.prog 16 [str s] w (optV (untold s)) := by
  refine CV.of ?_
  refine enter Tryd.func16 rfl rfl rfl (Sat.start w) ?_
  simp only [mkL]
  refine WC.seq ?_
  refine WC.region ?_
  refine WO.val (.asg (.r rfl)) rfl ?_
  refine WO.val (.asg (.r rfl)) rfl ?_
  refine WO.nil ?_
  refine KQ.seq ?_
  refine WC.seq ?_
  refine WC.region ?_
  refine WO.val (.asg (.r rfl)) rfl ?_
  refine WO.nil ?_
  refine KQ.seq ?_
  refine WC.seq ?_
  refine WC.seq ?_
  refine WC.region ?_
  refine WO.val (.asg (.r rfl)) rfl ?_
  refine WO.nil ?_
  refine KQ.seq ?_
  refine WC.block ?_
  refine WC.loop (σ := {p : Nat × List UInt8 × Value // p.1 ≤ s.length ∧ untold s = (untold (s.drop p.1)).map (p.2.1 ++ ·) ∧ p.2.1.length ≤ p.1}) (fun q => [(0, str s), (4, q.1.2.2), (5, .int .i64 (q.1.1 : Nat))]) (fun q => [Row 5 1 q.1.2.2 q.1.2.1.length (q.1.2.1.map vB)]) (fun q => s.length - q.1.1) (⟨(0, [], .slice none 0 0), by simp⟩) (by exact ⟨rfl, rfl, rfl, trivial⟩) (fun w hw => hw.rowN) ?_
  rintro ⟨⟨k, acc, v⟩, h1, hi, hn⟩
  dsimp only at h1 hi hn
  dsimp only
  refine WC.seq ?_
  refine WC.seq ?_
  refine WC.region ?_
  refine WO.val (.mv (.r rfl)) rfl ?_
  refine WO.val (.mv (.r rfl)) rfl ?_
  refine WO.val (.lenT Tryd.underlying9 (.r rfl)) rfl ?_
  refine WO.val (.bin (.r rfl) (.r rfl) rfl) rfl ?_
  refine WO.nil ?_
  refine KQ.seq ?_
  refine WC.cond rfl (fun c1 => ?_) (fun c1 => ?_)
  · have hk := lt_of_dec c1
    refine WC.skip ?_
    refine KQ.seq ?_
    refine WC.seq ?_
    refine WC.block ?_
    refine WC.seq ?_
    refine WC.seq ?_
    refine WC.region ?_
    refine WO.val (.mv (.r rfl)) rfl ?_
    refine WO.val (.mv (.r rfl)) rfl ?_
    refine WO.val (.ixT Tryd.underlying9 (.r rfl) (.r rfl) (gD hk)) rfl ?_
    refine WO.callS rfl ent_27 rfl (fun w hw => specPlain (s.getD k 0) w) ?_
    refine WO.nil ?_
    refine KQ.seq ?_
    refine WC.cond rfl (fun c2 => ?_) (fun c2 => ?_)
    · refine WC.seq ?_
      refine WC.region ?_
      refine WO.val (.mv (.r rfl)) rfl ?_
      refine WO.val (.mv (.r rfl)) rfl ?_
      refine WO.val (.mv (.r rfl)) rfl ?_
      refine WO.val (.ixT Tryd.underlying9 (.r rfl) (.r rfl) (gD hk)) rfl ?_
      refine WO.bs (vs := [vB (s.getD k 0)]) (c := [vB (s.getD k 0)]) sli_28 rfl rfl rfl (by omega) (by intro v hv; simp at hv; subst hv; rfl) rfl (by omega) fun g => ?_
      refine WO.pull 1 (.s .z) ?_
      refine WO.app (k := 1) (c := 1) (news := [vB (s.getD k 0)]) sli_28 rfl rfl rfl rfl (fun w hw => has_blk (hw.blkAt (k := 1) rfl) rfl) (by intro u hu; simp at hu; subst hu; rfl) (by rw [maxLen_eq]; omega) (by omega) fun u => ?_
      refine WO.val (.asg (.r rfl)) rfl ?_
      refine WO.nil ?_
      refine KQ.seq ?_
      refine WC.exit ?_
      refine KQ.thenX (KQ.blockX (KQ.seq ?_))
      refine WC.region ?_
      refine WO.val (.mv (.r rfl)) rfl ?_
      refine WO.val (.bin (.r rfl) (.r rfl) (pb_inc (by omega))) rfl ?_
      refine WO.val (.asg (.r rfl)) rfl ?_
      refine WO.nil ?_
      refine KQ.again (⟨(k + 1, acc ++ [s.getD k 0], u), by dsimp only; omega, by dsimp only; rw [hi, unt_plain hk c2, map_app], by simp; omega⟩) (by dsimp only; omega) (by exact ⟨rfl, rfl, rfl, trivial⟩) (fun w hw => by have := hw.first; simpa [-List.getD_eq_getElem?_getD] using this)
    · refine WC.skip ?_
      refine KQ.seq ?_
      refine WC.seq ?_
      refine WC.seq ?_
      refine WC.region ?_
      refine WO.val (.mv (.r rfl)) rfl ?_
      refine WO.val (.mv (.r rfl)) rfl ?_
      refine WO.val (.ixT Tryd.underlying9 (.r rfl) (.r rfl) (gD hk)) rfl ?_
      refine WO.val (.bin (.r rfl) (.r rfl) rfl) rfl ?_
      refine WO.val (.mv (.r rfl)) rfl ?_
      refine WO.gd rfl rfl rfl (fun h => (.mv (.r rfl))) ?_
      refine WO.gd rfl rfl rfl (fun h => (.bin (.g h rfl) (.r rfl) (pb_add2 (by omega)))) ?_
      refine WO.gd rfl rfl rfl (fun h => (.mv (.r rfl))) ?_
      refine WO.gd rfl rfl rfl (fun h => (.lenT Tryd.underlying9 (.g h rfl))) ?_
      refine WO.gd rfl rfl rfl (fun h => (.bin (.g h rfl) (.g h rfl) rfl)) ?_
      refine WO.val (.or rfl rfl) rfl ?_
      refine WO.val (.mv (.r rfl)) rfl ?_
      refine WO.gd rfl rfl rfl (fun h => (.mv (.r rfl))) ?_
      refine WO.gd rfl rfl rfl (fun h => (.mv (.r rfl))) ?_
      refine WO.gd rfl rfl rfl (fun h => (.bin (.g h rfl) (.r rfl) (pb_inc (by omega)))) ?_
      refine WO.gd rfl rfl rfl (fun h => (.ixT Tryd.underlying9 (.g h rfl) (.g h rfl) (gD (by simp [-List.getD_eq_getElem?_getD] at h; omega)))) ?_
      refine WO.gdC rfl rfl rfl ent_28 (fun h => ⟨.cons (.g h rfl) (.nil), fun w hw => specHex (s.getD (k + 1) 0) w⟩) ?_
      refine WO.gd rfl rfl rfl (fun h => (.bin (.g h rfl) (.r rfl) rfl)) ?_
      refine WO.val (.or rfl rfl) rfl ?_
      refine WO.val (.mv (.r rfl)) rfl ?_
      refine WO.gd rfl rfl rfl (fun h => (.mv (.r rfl))) ?_
      refine WO.gd rfl rfl rfl (fun h => (.mv (.r rfl))) ?_
      refine WO.gd rfl rfl rfl (fun h => (.bin (.g h rfl) (.r rfl) (pb_add2 (by omega)))) ?_
      refine WO.gd rfl rfl rfl (fun h => (.ixT Tryd.underlying9 (.g h rfl) (.g h rfl) (gD (by simp [-List.getD_eq_getElem?_getD] at h; omega)))) ?_
      refine WO.gdC rfl rfl rfl ent_28 (fun h => ⟨.cons (.g h rfl) (.nil), fun w hw => specHex (s.getD (k + 2) 0) w⟩) ?_
      refine WO.gd rfl rfl rfl (fun h => (.bin (.g h rfl) (.r rfl) rfl)) ?_
      refine WO.val (.or rfl rfl) rfl ?_
      refine WO.nil ?_
      refine KQ.seq ?_
      refine WC.cond rfl (fun c3 => ?_) (fun c3 => ?_)
      · refine WC.seq ?_
        refine WC.region ?_
        refine WO.val (.asg (.r rfl)) rfl ?_
        refine WO.val (.asg (.r rfl)) rfl ?_
        refine WO.nil ?_
        refine KQ.seq ?_
        refine WC.ret ?_
        exact KQ.thenR (KQ.blockR (KQ.thenR (KQ.thenR (KQ.blockR (KQ.thenR (KQ.fin rfl (.tmp rfl (.tmp rfl .nil)) (fun w hw => ⟨(), by rw [show untold s = none from unt_none hi (unt_fail hk c2 c3)]; rfl, hw.none⟩)))))))
      · have h3 := c3
        simp only [Bool.or_eq_false_iff, decide_eq_false_iff_not] at h3
        obtain ⟨⟨⟨h37, hk2⟩, hx0⟩, hy0⟩ := h3
        have hk2 : k + 2 < s.length := by omega
        have hx0 : 0 ≤ hexv (s.getD (k + 1) 0) := by omega
        have hy0 : 0 ≤ hexv (s.getD (k + 2) 0) := by omega
        have hx := hexv_le (s.getD (k + 1) 0)
        have hy := hexv_le (s.getD (k + 2) 0)
        refine WC.skip ?_
        refine KQ.seq ?_
        refine WC.seq ?_
        refine WC.quiet (by kernel_rfl) (by kernel_rfl) ?_
        refine WQ.val (.mv (.r rfl)) rfl ?_
        refine WQ.val (.mv (.r rfl)) rfl ?_
        refine WQ.val (.bin (.r rfl) (.r rfl) (pb_inc (by omega))) rfl ?_
        refine WQ.val (.ixT Tryd.underlying9 (.r rfl) (.r rfl) (gD (by omega))) rfl ?_
        refine WQ.callV rfl ent_28 rfl (fun w hw => specHex (s.getD (k + 1) 0) w) ?_
        refine WQ.val (.bin (.r rfl) (.r rfl) (pb_mul (by omega) (by omega))) rfl ?_
        refine WQ.val (.mv (.r rfl)) rfl ?_
        refine WQ.val (.mv (.r rfl)) rfl ?_
        refine WQ.val (.bin (.r rfl) (.r rfl) (pb_add2 (by omega))) rfl ?_
        refine WQ.val (.ixT Tryd.underlying9 (.r rfl) (.r rfl) (gD (by omega))) rfl ?_
        refine WQ.callV rfl ent_28 rfl (fun w hw => specHex (s.getD (k + 2) 0) w) ?_
        refine WQ.val (.bin (.r rfl) (.r rfl) (pb_add (by omega) (by omega))) rfl ?_
        refine WQ.val (.cvi Tryd.underlying3 Tryd.underlying5 (.r rfl) (cvHex hx0 hy0 hx.2 hy.2)) rfl ?_
        refine WQ.val (.asg (.r rfl)) rfl ?_
        refine WQ.nil ?_
        refine KQ.seq ?_
        refine WC.seq ?_
        refine WC.seq ?_
        refine WC.region ?_
        refine WO.val (.mv (.r rfl)) rfl ?_
        refine WO.callS rfl ent_27 rfl (fun w hw => specPlain (UInt8.ofNat (16 * hexv (s.getD (k + 1) 0) + hexv (s.getD (k + 2) 0)).toNat) w) ?_
        refine WO.nil ?_
        refine KQ.seq ?_
        refine WC.cond rfl (fun c4 => ?_) (fun c4 => ?_)
        · refine WC.seq ?_
          refine WC.region ?_
          refine WO.val (.asg (.r rfl)) rfl ?_
          refine WO.val (.asg (.r rfl)) rfl ?_
          refine WO.nil ?_
          refine KQ.seq ?_
          refine WC.ret ?_
          exact KQ.thenR (KQ.blockR (KQ.thenR (KQ.thenR (KQ.blockR (KQ.thenR (KQ.fin rfl (.tmp rfl (.tmp rfl .nil)) (fun w hw => ⟨(), by rw [show untold s = none from unt_none hi (by rw [unt_three hk2 c2 c3, if_pos c4])]; rfl, hw.none⟩)))))))
        · refine WC.skip ?_
          refine KQ.seq ?_
          refine WC.seq ?_
          refine WC.region ?_
          refine WO.val (.mv (.r rfl)) rfl ?_
          refine WO.val (.mv (.r rfl)) rfl ?_
          refine WO.bs (vs := [vB (UInt8.ofNat (16 * hexv (s.getD (k + 1) 0) + hexv (s.getD (k + 2) 0)).toNat)]) (c := [vB (UInt8.ofNat (16 * hexv (s.getD (k + 1) 0) + hexv (s.getD (k + 2) 0)).toNat)]) sli_28 rfl rfl rfl (by omega) (by intro v hv; simp at hv; subst hv; rfl) rfl (by omega) fun g => ?_
          refine WO.pull 1 (.s .z) ?_
          refine WO.app (k := 1) (c := 1) (news := [vB (UInt8.ofNat (16 * hexv (s.getD (k + 1) 0) + hexv (s.getD (k + 2) 0)).toNat)]) sli_28 rfl rfl rfl rfl (fun w hw => has_blk (hw.blkAt (k := 1) rfl) rfl) (by intro u hu; simp at hu; subst hu; rfl) (by rw [maxLen_eq]; omega) (by omega) fun u => ?_
          refine WO.val (.asg (.r rfl)) rfl ?_
          refine WO.nil ?_
          refine KQ.seq ?_
          refine WC.region ?_
          refine WO.val (.mv (.r rfl)) rfl ?_
          refine WO.val (.bin (.r rfl) (.r rfl) (pb_add2 (by omega))) rfl ?_
          refine WO.val (.asg (.r rfl)) rfl ?_
          refine WO.nil ?_
          refine KQ.blockN (KQ.seq ?_)
          refine WC.region ?_
          refine WO.val (.mv (.r rfl)) rfl ?_
          refine WO.val (.bin (.r rfl) (.r rfl) (pb_inc (by omega))) rfl ?_
          refine WO.val (.asg (.r rfl)) rfl ?_
          refine WO.nil ?_
          refine KQ.again (⟨(k + 2 + 1, acc ++ [UInt8.ofNat (16 * hexv (s.getD (k + 1) 0) + hexv (s.getD (k + 2) 0)).toNat], u), by dsimp only; omega, by dsimp only; rw [hi, unt_three hk2 c2 c3, if_neg (by rw [c4]; decide), map_app], by simp; omega⟩) (by dsimp only; omega) (by exact ⟨rfl, rfl, rfl, trivial⟩) (fun w hw => by have := hw.first; simpa [-List.getD_eq_getElem?_getD] using this)
  · refine WC.exit ?_
    refine KQ.thenX (KQ.thenX (KQ.blockX (KQ.seq ?_)))
    refine WC.seq ?_
    refine WC.region ?_
    refine WO.val (.mv (.r rfl)) rfl ?_
    refine WO.val (.cvT Tryd.underlying28 Tryd.underlying5 Tryd.underlying9 (.r rfl) (fun w hw => hw)) rfl ?_
    refine WO.val (.asg (.r rfl)) rfl ?_
    refine WO.val (.asg (.r rfl)) rfl ?_
    refine WO.nil ?_
    refine KQ.seq ?_
    refine WC.ret ?_
    exact KQ.fin rfl (.tmp rfl (.tmp rfl .nil)) (fun w hw => ⟨(), by rw [show untold s = some acc from unt_done hi (ge_of_dec c1)]; rfl, hw.none⟩)
end Go.Proofs.YtfnaplhjkapghaaDoor
