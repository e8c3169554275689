/- A part of the proofs of this seat: contracts of the functions that its statements reach. -/
import Derived.Test.YtfnaplhjkapghaaDoorSh
import Derived.Test.YtfnaplhjkapghaaDoorProg
set_option linter.unusedVariables false
set_option linter.unusedSimpArgs false
set_option maxRecDepth 4000
namespace Go.Proofs.YtfnaplhjkapghaaDoor
open Go Go.RowKit Go.Proofs.YtfnaplhjkapghaaDoor.Sp


theorem maxLen_eq : maxLen = 9223372036854775807 := rfl
theorem u8_in {n : Int} (h0 : 0 ≤ n) (h1 : n ≤ 255) : IntKind.u8.wrap n = n := by rw [IntKind.wrap_u8]; omega
theorem pb_sub8 {a b : Int} (h0 : 0 ≤ a - b) (h1 : a - b ≤ 255) : pbin .sub (.int .u8 a) (.int .u8 b) = some (.int .u8 (a - b)) := by
  show some (Value.int .u8 (IntKind.u8.wrap (a - b))) = _
  rw [u8_in h0 h1]
theorem pb_mul {a b : Int} (h0 : -9223372036854775808 ≤ a * b) (h1 : a * b ≤ 9223372036854775807) : pbin .mul (.int .i64 a) (.int .i64 b) = some (.int .i64 (a * b)) := by
  show some (Value.int .i64 (IntKind.i64.wrap (a * b))) = _
  rw [wrap_in h0 h1]
theorem cv64 {k : IntKind} {a : Int} (h0 : -9223372036854775808 ≤ a) (h1 : a ≤ 9223372036854775807) : Value.int .i64 (IntKind.i64.wrap a) = .int .i64 a := by rw [wrap_in h0 h1]
theorem gD {s : List UInt8} {k : Nat} (h : k < s.length) : s[k]? = some (s.getD k 0) := by simp [List.getD, List.getElem?_eq_getElem h]
theorem u8_le (b : UInt8) : (b.toNat : Int) ≤ 255 := by have := b.toNat_lt; omega
theorem drop_gD {s : List UInt8} {k : Nat} (h : k < s.length) : s.drop k = s.getD k 0 :: s.drop (k + 1) := by
  rw [List.drop_eq_getElem_cons h]; simp [List.getD, List.getElem?_eq_getElem h]
theorem take_gD {s : List UInt8} {k : Nat} (h : k < s.length) : s.take (k + 1) = s.take k ++ [s.getD k 0] := by
  rw [List.take_add_one, gD h]; rfl
def plain (b : UInt8) : Bool := (decide ((b.toNat : Int) ≥ 97) && decide ((b.toNat : Int) ≤ 122) || decide ((b.toNat : Int) ≥ 65) && decide ((b.toNat : Int) ≤ 90)) || decide ((b.toNat : Int) ≥ 48) && decide ((b.toNat : Int) ≤ 57)
def hexv (b : UInt8) : Int := if (decide ((b.toNat : Int) ≥ 48) && decide ((b.toNat : Int) ≤ 57)) = true then b.toNat - 48 else if (decide ((b.toNat : Int) ≥ 97) && decide ((b.toNat : Int) ≤ 102)) = true then b.toNat - 97 + 10 else -1
theorem hexv_le (b : UInt8) : -1 ≤ hexv b ∧ hexv b ≤ 15 := by
  unfold hexv; split
  · rename_i h; simp at h; omega
  · split
    · rename_i h; simp at h; omega
    · omega
def dig (b : UInt8) : Bool := !(decide ((b.toNat : Int) < 48) || decide ((b.toNat : Int) > 57))
def dval (l : List UInt8) : Int := l.foldl (fun n b => 10 * n + ((b.toNat : Int) - 48)) 0
theorem dval_snoc (l : List UInt8) (b : UInt8) : dval (l ++ [b]) = 10 * dval l + ((b.toNat : Int) - 48) := by simp [dval]
def bad4 (s : List UInt8) : Bool := (decide ((s.length : Int) < 1) || decide ((s.length : Int) > 4)) || ((((s.getD 0 0).toNat : Int) == 48) && decide ((s.length : Int) > 1))
def num4 (s : List UInt8) : Int := if bad4 s = true then -1 else if s.all dig = true then dval s else -1
theorem dval_bound (l : List UInt8) : ∀ (m : Nat), l.length = m → l.all dig = true → 0 ≤ dval l ∧ dval l < 10 ^ m := by
  intro m
  induction m generalizing l with
  | zero => intro h _; obtain rfl := List.eq_nil_of_length_eq_zero h; simp [dval]
  | succ m ih =>
    intro h hd
    have hne : l ≠ [] := by rintro rfl; simp at h
    rw [← List.dropLast_concat_getLast hne] at hd ⊢
    rw [List.all_append, Bool.and_eq_true] at hd
    obtain ⟨h1, h2⟩ := ih l.dropLast (by simp [h]) hd.1
    have h3 := hd.2
    simp [dig] at h3
    rw [dval_snoc, Int.pow_succ]
    omega
/-- what is told so, and is read back -/
def untold : List UInt8 → Option (List UInt8)
  | [] => some []
  | b :: r => if plain b = true then (untold r).map (b :: ·) else
    match r with
    | x :: y :: r' => if (!(b.toNat == 37) || decide (hexv x < 0) || decide (hexv y < 0)) = true then none else
        if plain (UInt8.ofNat (16 * hexv x + hexv y).toNat) = true then none else (untold r').map (UInt8.ofNat (16 * hexv x + hexv y).toNat :: ·)
    | _ => none
theorem untold_cons (b : UInt8) (r : List UInt8) : untold (b :: r) = if plain b = true then (untold r).map (b :: ·) else
    match r with
    | x :: y :: r' => if (!(b.toNat == 37) || decide (hexv x < 0) || decide (hexv y < 0)) = true then none else
        if plain (UInt8.ofNat (16 * hexv x + hexv y).toNat) = true then none else (untold r').map (UInt8.ofNat (16 * hexv x + hexv y).toNat :: ·)
    | _ => none := by
  rcases r with _ | ⟨x, _ | ⟨y, r⟩⟩ <;> simp only [untold]
def optV (o : Option (List UInt8)) : Value := .tuple #[str (o.getD []), .bool o.isSome]
theorem cvHex {a b : Int} (ha : 0 ≤ a) (hb : 0 ≤ b) (ha2 : a ≤ 15) (hb2 : b ≤ 15) : Value.int .u8 (IntKind.u8.wrap (16 * a + b)) = .int .u8 (UInt8.ofNat (16 * a + b).toNat).toNat := by
  rw [u8_in (by omega) (by omega)]
  have : (UInt8.ofNat (16 * a + b).toNat).toNat = (16 * a + b).toNat := by
    rw [UInt8.toNat_ofNat']; omega
  rw [this]; congr 1; omega

/-! spec.l14Plain -/
theorem specPlain (b : UInt8) (w : World) : CV Tryd.prog 27 [.int .u8 b.toNat] w (.bool (plain b)) := by
  refine CV.of ?_
  refine enter Tryd.func27 rfl rfl rfl (Sat.start w) ?_
  simp only [mkL]
  refine WC.seq ?_
  refine WC.region ?_
  refine WO.val (.asg (.r rfl)) rfl ?_
  refine WO.nil ?_
  refine KQ.seq ?_
  refine WC.seq ?_
  refine WC.region ?_
  refine WO.val (.mv (.r rfl)) rfl ?_
  refine WO.val (.bin (.r rfl) (.r rfl) rfl) rfl ?_
  refine WO.val (.mv (.r rfl)) rfl ?_
  refine WO.gd rfl rfl rfl (fun h => (.mv (.r rfl))) ?_
  refine WO.gd rfl rfl rfl (fun h => (.bin (.g h rfl) (.r rfl) rfl)) ?_
  refine WO.val (.and rfl rfl) rfl ?_
  refine WO.val (.mv (.r rfl)) rfl ?_
  refine WO.gd rfl rfl rfl (fun h => (.mv (.r rfl))) ?_
  refine WO.gd rfl rfl rfl (fun h => (.bin (.g h rfl) (.r rfl) rfl)) ?_
  refine WO.gd rfl rfl rfl (fun h => (.mv (.g h rfl))) ?_
  refine WO.gdN rfl rfl rfl (fun h => (.mv (.r rfl))) ?_
  refine WO.gdN rfl rfl rfl (fun h => (.bin (.g h rfl) (.r rfl) rfl)) ?_
  refine WO.gd rfl rfl rfl (fun h => (.andN h rfl rfl)) ?_
  refine WO.val (.or rfl rfl) rfl ?_
  refine WO.val (.mv (.r rfl)) rfl ?_
  refine WO.gd rfl rfl rfl (fun h => (.mv (.r rfl))) ?_
  refine WO.gd rfl rfl rfl (fun h => (.bin (.g h rfl) (.r rfl) rfl)) ?_
  refine WO.gd rfl rfl rfl (fun h => (.mv (.g h rfl))) ?_
  refine WO.gdN rfl rfl rfl (fun h => (.mv (.r rfl))) ?_
  refine WO.gdN rfl rfl rfl (fun h => (.bin (.g h rfl) (.r rfl) rfl)) ?_
  refine WO.gd rfl rfl rfl (fun h => (.andN h rfl rfl)) ?_
  refine WO.val (.or rfl rfl) rfl ?_
  refine WO.val (.asg (.r rfl)) rfl ?_
  refine WO.nil ?_
  refine KQ.seq ?_
  refine WC.ret ?_
  exact KQ.fin rfl (.tmp rfl .nil) (fun w hw => ⟨(), rfl, hw⟩)
/-! spec.l14Hex -/
theorem specHex (b : UInt8) (w : World) : CV Tryd.prog 28 [.int .u8 b.toNat] w (.int .i64 (hexv b)) := by
  refine CV.of ?_
  have hb := u8_le b
  refine enter Tryd.func28 rfl rfl rfl (Sat.start w) ?_
  simp only [mkL]
  refine WC.seq ?_
  refine WC.region ?_
  refine WO.val (.asg (.r rfl)) rfl ?_
  refine WO.nil ?_
  refine KQ.seq ?_
  refine WC.seq ?_
  refine WC.block ?_
  refine WC.seq ?_
  refine WC.region ?_
  refine WO.val (.mv (.r rfl)) rfl ?_
  refine WO.val (.bin (.r rfl) (.r rfl) rfl) rfl ?_
  refine WO.val (.mv (.r rfl)) rfl ?_
  refine WO.gd rfl rfl rfl (fun h => (.mv (.r rfl))) ?_
  refine WO.gd rfl rfl rfl (fun h => (.bin (.g h rfl) (.r rfl) rfl)) ?_
  refine WO.val (.and rfl rfl) rfl ?_
  refine WO.val (.asg (.r rfl)) rfl ?_
  refine WO.nil ?_
  refine KQ.seq ?_
  refine WC.cond rfl (fun c1 => ?_) (fun c1 => ?_)
  · have h1 := c1; simp at h1
    refine WC.seq ?_
    refine WC.region ?_
    refine WO.val (.mv (.r rfl)) rfl ?_
    refine WO.val (.bin (.r rfl) (.r rfl) (pb_sub8 (by omega) (by omega))) rfl ?_
    refine WO.val (.cvi Tryd.underlying5 Tryd.underlying3 (.r rfl) (cv64 (k := .i64) (by omega) (by omega))) rfl ?_
    refine WO.val (.asg (.r rfl)) rfl ?_
    refine WO.nil ?_
    refine KQ.seq ?_
    refine WC.ret ?_
    exact KQ.blockR (KQ.thenR (KQ.fin rfl (.tmp rfl .nil) (fun w hw => ⟨(), by rw [show hexv b = b.toNat - 48 from by unfold hexv; rw [if_pos c1]]; rfl, hw⟩)))
  · refine WC.seq ?_
    refine WC.region ?_
    refine WO.val (.mv (.r rfl)) rfl ?_
    refine WO.val (.bin (.r rfl) (.r rfl) rfl) rfl ?_
    refine WO.val (.mv (.r rfl)) rfl ?_
    refine WO.gd rfl rfl rfl (fun h => (.mv (.r rfl))) ?_
    refine WO.gd rfl rfl rfl (fun h => (.bin (.g h rfl) (.r rfl) rfl)) ?_
    refine WO.val (.and rfl rfl) rfl ?_
    refine WO.val (.asg (.r rfl)) rfl ?_
    refine WO.nil ?_
    refine KQ.seq ?_
    refine WC.cond rfl (fun c2 => ?_) (fun c2 => ?_)
    · have h2 := c2; simp at h2
      refine WC.seq ?_
      refine WC.region ?_
      refine WO.val (.mv (.r rfl)) rfl ?_
      refine WO.val (.bin (.r rfl) (.r rfl) (pb_sub8 (by omega) (by omega))) rfl ?_
      refine WO.val (.cvi Tryd.underlying5 Tryd.underlying3 (.r rfl) (cv64 (k := .i64) (by omega) (by omega))) rfl ?_
      refine WO.val (.bin (.r rfl) (.r rfl) (pb_add (by omega) (by omega))) rfl ?_
      refine WO.val (.asg (.r rfl)) rfl ?_
      refine WO.nil ?_
      refine KQ.seq ?_
      refine WC.ret ?_
      exact KQ.blockR (KQ.thenR (KQ.fin rfl (.tmp rfl .nil) (fun w hw => ⟨(), by rw [show hexv b = b.toNat - 97 + 10 from by unfold hexv; rw [if_neg (by rw [c1]; decide), if_pos c2]]; rfl, hw⟩)))
    · refine WC.skip ?_
      refine KQ.blockN (KQ.seq ?_)
      refine WC.seq ?_
      refine WC.region ?_
      refine WO.val (.asg (.r rfl)) rfl ?_
      refine WO.nil ?_
      refine KQ.seq ?_
      refine WC.ret ?_
      exact KQ.fin rfl (.tmp rfl .nil) (fun w hw => ⟨(), by rw [show hexv b = -1 from by unfold hexv; rw [if_neg (by rw [c1]; decide), if_neg (by rw [c2]; decide)]]; rfl, hw⟩)
/-! spec.l14Number -/
theorem specNumber (s : List UInt8) (w : World) : CV Tryd.prog 15 [str s, .int .i64 4] w (.int .i64 (num4 s)) := by
  refine CV.of ?_
  refine enter Tryd.func15 rfl rfl rfl (Sat.start w) ?_
  simp only [mkL]
  refine WC.seq ?_
  refine WC.region ?_
  refine WO.val (.asg (.r rfl)) rfl ?_
  refine WO.nil ?_
  refine KQ.seq ?_
  refine WC.seq ?_
  refine WC.seq ?_
  refine WC.region ?_
  refine WO.val (.mv (.r rfl)) rfl ?_
  refine WO.val (.lenT Tryd.underlying9 (.r rfl)) rfl ?_
  refine WO.val (.bin (.r rfl) (.r rfl) rfl) rfl ?_
  refine WO.val (.mv (.r rfl)) rfl ?_
  refine WO.gd rfl rfl rfl (fun h => (.mv (.r rfl))) ?_
  refine WO.gd rfl rfl rfl (fun h => (.lenT Tryd.underlying9 (.g h rfl))) ?_
  refine WO.gd rfl rfl rfl (fun h => (.mv (.r rfl))) ?_
  refine WO.gd rfl rfl rfl (fun h => (.bin (.g h rfl) (.g h rfl) rfl)) ?_
  refine WO.val (.or rfl rfl) rfl ?_
  refine WO.val (.mv (.r rfl)) rfl ?_
  refine WO.gd rfl rfl rfl (fun h => (.mv (.r rfl))) ?_
  refine WO.gd rfl rfl rfl (fun h => (.ixT Tryd.underlying9 (.g h rfl) (.r rfl) (k := 0) (gD (by simp at h; omega)))) ?_
  refine WO.gd rfl rfl rfl (fun h => (.bin (.g h rfl) (.r rfl) rfl)) ?_
  refine WO.gd rfl rfl rfl (fun h => (.mv (.g h rfl))) ?_
  refine WO.gdN rfl rfl rfl (fun h => (.mv (.r rfl))) ?_
  refine WO.gdN rfl rfl rfl (fun h => (.lenT Tryd.underlying9 (.g h rfl))) ?_
  refine WO.gdN rfl rfl rfl (fun h => (.bin (.g h rfl) (.r rfl) rfl)) ?_
  refine WO.gd rfl rfl rfl (fun h => (.andN h rfl rfl)) ?_
  refine WO.val (.or rfl rfl) rfl ?_
  refine WO.nil ?_
  refine KQ.seq ?_
  refine WC.cond rfl (fun c1 => ?_) (fun c1 => ?_)
  · refine WC.seq ?_
    refine WC.region ?_
    refine WO.val (.asg (.r rfl)) rfl ?_
    refine WO.nil ?_
    refine KQ.seq ?_
    refine WC.ret ?_
    exact KQ.thenR (KQ.fin rfl (.tmp rfl .nil) (fun w hw => ⟨(), by rw [show num4 s = -1 from by unfold num4; rw [if_pos (show bad4 s = true from c1)]]; rfl, hw⟩))
  · have hl : s.length ≤ 4 := by have := c1; simp [bad4] at this; omega
    refine WC.skip ?_
    refine KQ.seq ?_
    refine WC.seq ?_
    refine WC.region ?_
    refine WO.val (.asg (.r rfl)) rfl ?_
    refine WO.nil ?_
    refine KQ.seq ?_
    refine WC.seq ?_
    refine WC.seq ?_
    refine WC.region ?_
    refine WO.val (.asg (.r rfl)) rfl ?_
    refine WO.nil ?_
    refine KQ.seq ?_
    refine WC.block ?_
    refine WC.loop (σ := {k : Nat // (s.take k).all dig = true}) (fun s1 => [(0, str s), (5, .int .i64 (dval (s.take s1.1))), (6, .int .i64 (s1.1 : Nat))]) (fun s1 => []) (fun s1 => s.length - s1.1) (⟨0, rfl⟩) (by exact ⟨rfl, rfl, rfl, trivial⟩) (fun w hw => hw) ?_
    rintro ⟨k, hi⟩
    dsimp only
    refine WC.seq ?_
    refine WC.seq ?_
    refine WC.region ?_
    refine WO.val (.mv (.r rfl)) rfl ?_
    refine WO.val (.mv (.r rfl)) rfl ?_
    refine WO.val (.lenT Tryd.underlying9 (.r rfl)) rfl ?_
    refine WO.val (.bin (.r rfl) (.r rfl) rfl) rfl ?_
    refine WO.nil ?_
    refine KQ.seq ?_
    refine WC.cond rfl (fun c2 => ?_) (fun c2 => ?_)
    · have hk := lt_of_dec c2
      have hu := u8_le (s.getD k 0)
      refine WC.skip ?_
      refine KQ.seq ?_
      refine WC.seq ?_
      refine WC.block ?_
      refine WC.seq ?_
      refine WC.seq ?_
      refine WC.region ?_
      refine WO.val (.mv (.r rfl)) rfl ?_
      refine WO.val (.mv (.r rfl)) rfl ?_
      refine WO.val (.ixT Tryd.underlying9 (.r rfl) (.r rfl) (gD hk)) rfl ?_
      refine WO.val (.bin (.r rfl) (.r rfl) rfl) rfl ?_
      refine WO.val (.mv (.r rfl)) rfl ?_
      refine WO.gd rfl rfl rfl (fun h => (.mv (.r rfl))) ?_
      refine WO.gd rfl rfl rfl (fun h => (.mv (.r rfl))) ?_
      refine WO.gd rfl rfl rfl (fun h => (.ixT Tryd.underlying9 (.g h rfl) (.g h rfl) (gD hk))) ?_
      refine WO.gd rfl rfl rfl (fun h => (.bin (.g h rfl) (.r rfl) rfl)) ?_
      refine WO.val (.or rfl rfl) rfl ?_
      refine WO.nil ?_
      refine KQ.seq ?_
      refine WC.cond rfl (fun c3 => ?_) (fun c3 => ?_)
      · refine WC.seq ?_
        refine WC.region ?_
        refine WO.val (.asg (.r rfl)) rfl ?_
        refine WO.nil ?_
        refine KQ.seq ?_
        refine WC.ret ?_
        exact KQ.thenR (KQ.blockR (KQ.thenR (KQ.thenR (KQ.blockR (KQ.thenR (KQ.fin rfl (.tmp rfl .nil) (fun w hw => ⟨(), by rw [show num4 s = -1 from by unfold num4; rw [if_neg (by unfold bad4; rw [c1]; decide), if_neg (by intro h; have := List.all_eq_true.1 h (s.getD k 0) (List.mem_of_getElem? (gD hk)); unfold dig at this; rw [c3] at this; cases this)]]; rfl, hw⟩)))))))
      · have hd : dig (s.getD k 0) = true := by unfold dig; rw [c3]; rfl
        have hb := dval_bound (s.take k) k (by simp; omega) hi
        have hp : (10:Int) ^ k ≤ 10 ^ 4 := by have : k ≤ 3 := by omega
                                              match k, this with | 0, _ => decide | 1, _ => decide | 2, _ => decide | 3, _ => decide
        have hd2 := hd
        simp [dig, -List.getD_eq_getElem?_getD] at hd2
        refine WC.skip ?_
        refine KQ.seq ?_
        refine WC.region ?_
        refine WO.val (.mv (.r rfl)) rfl ?_
        refine WO.val (.bin (.r rfl) (.r rfl) (pb_mul (by omega) (by omega))) rfl ?_
        refine WO.val (.mv (.r rfl)) rfl ?_
        refine WO.val (.mv (.r rfl)) rfl ?_
        refine WO.val (.ixT Tryd.underlying9 (.r rfl) (.r rfl) (gD hk)) rfl ?_
        refine WO.val (.bin (.r rfl) (.r rfl) (pb_sub8 (by omega) (by omega))) rfl ?_
        refine WO.val (.cvi Tryd.underlying5 Tryd.underlying3 (.r rfl) (cv64 (k := .i64) (by omega) (by omega))) rfl ?_
        refine WO.val (.bin (.r rfl) (.r rfl) (pb_add (by omega) (by omega))) rfl ?_
        refine WO.val (.asg (.r rfl)) rfl ?_
        refine WO.nil ?_
        refine KQ.blockN (KQ.seq ?_)
        refine WC.region ?_
        refine WO.val (.mv (.r rfl)) rfl ?_
        refine WO.val (.bin (.r rfl) (.r rfl) (pb_inc (by omega))) rfl ?_
        refine WO.val (.asg (.r rfl)) rfl ?_
        refine WO.nil ?_
        refine KQ.again (⟨k + 1, by rw [take_gD hk, List.all_append, hi]; simp [hd, -List.getD_eq_getElem?_getD]⟩) (by dsimp only; omega) (by dsimp only; rw [take_gD hk, dval_snoc]; exact ⟨rfl, rfl, rfl, trivial⟩) (fun w hw => hw)
    · refine WC.exit ?_
      refine KQ.thenX (KQ.thenX (KQ.blockX (KQ.seq ?_)))
      refine WC.seq ?_
      refine WC.region ?_
      refine WO.val (.mv (.r rfl)) rfl ?_
      refine WO.val (.asg (.r rfl)) rfl ?_
      refine WO.nil ?_
      refine KQ.seq ?_
      refine WC.ret ?_
      exact KQ.fin rfl (.tmp rfl .nil) (fun w hw => ⟨(), by rw [show num4 s = dval (s.take k) from by unfold num4; have e : s.take k = s := List.take_of_length_le (ge_of_dec c2); rw [e] at hi ⊢; rw [if_neg (by unfold bad4; rw [c1]; decide), if_pos hi]]; rfl, hw⟩)
end Go.Proofs.YtfnaplhjkapghaaDoor
