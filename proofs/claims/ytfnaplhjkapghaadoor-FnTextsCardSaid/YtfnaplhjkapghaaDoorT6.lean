/- A part of the proofs of this seat: contracts of the functions that its statements reach. -/
import Derived.Test.YtfnaplhjkapghaaDoorT5
import Derived.Test.YtfnaplhjkapghaaDoorProg
set_option linter.unusedVariables false
set_option linter.unusedSimpArgs false
set_option maxRecDepth 4000
namespace Go.Proofs.YtfnaplhjkapghaaDoor
open Go Go.RowKit Go.Proofs.YtfnaplhjkapghaaDoor.Sp
theorem ent_35 : Ent Tryd.prog 35 := ent_of Tryd.prog Tryd.func35 rfl rfl
theorem ent_36 : Ent Tryd.prog 36 := ent_of Tryd.prog Tryd.func36 rfl rfl
theorem ent_52 : Ent Tryd.prog 52 := ent_of Tryd.prog Tryd.func52 rfl rfl

def hexD : List UInt8 := [48, 49, 50, 51, 52, 53, 54, 55, 56, 57, 97, 98, 99, 100, 101, 102]
def codeB (b : UInt8) : List UInt8 := if plain b = true then [b] else [37, hexD.getD (b.toNat / 16) 0, hexD.getD (b.toNat % 16) 0]
def codedL (s : List UInt8) : List UInt8 := s.flatMap codeB
theorem codeB_len (b : UInt8) : (codeB b).length ≤ 3 := by unfold codeB; split <;> simp
theorem codedL_len (s : List UInt8) : (codedL s).length ≤ 3 * s.length := by
  induction s with
  | nil => simp [codedL]
  | cons b r ih => have := codeB_len b; simp only [codedL, List.flatMap_cons, List.length_append, List.length_cons] at ih ⊢; omega
theorem codedL_take {s : List UInt8} {k : Nat} (h : k < s.length) : codedL (s.take (k + 1)) = codedL (s.take k) ++ codeB (s.getD k 0) := by
  rw [take_gD h]; simp [codedL]
theorem shr_all : ∀ n : Nat, n < 256 → IntKind.u8.wrap (((n : Int)).fdiv 16) = ((n / 16 : Nat) : Int) ∧ ((n : Int)).fdiv 16 = ((n / 16 : Nat) : Int) := by decide +kernel
theorem and_all : ∀ n : Nat, n < 256 → IntKind.u8.wrap (BitVec.ofInt 8 (n : Int) &&& BitVec.ofInt 8 15).toNat = ((n % 16 : Nat) : Int) := by decide +kernel
theorem pb_shr4 (b : UInt8) : pbin .shr (.int .u8 (b.toNat : Int)) (.int .u64 4) = some (.int .u8 ((b.toNat / 16 : Nat) : Int)) := by
  have h := (shr_all b.toNat b.toNat_lt).2
  show (if (0 : Int) ≤ 4 then some (Value.int .u8 (((b.toNat : Int)).fdiv (2 ^ 4))) else none) = _
  rw [if_pos (by decide)]
  rw [show (2 : Int) ^ 4 = 16 from rfl, h]
theorem pb_and15 (b : UInt8) : pbin .and (.int .u8 (b.toNat : Int)) (.int .u8 15) = some (.int .u8 ((b.toNat % 16 : Nat) : Int)) := by
  have h := and_all b.toNat b.toNat_lt
  show some (Value.int .u8 (IntKind.u8.wrap (BitVec.ofInt 8 (b.toNat : Int) &&& BitVec.ofInt 8 15).toNat)) = _
  rw [h]
theorem pb_inc8 {k : Nat} (h : k + 1 ≤ 255) : pbin .add (.int .u8 (k : Int)) (.int .u8 1) = some (.int .u8 ((k + 1 : Nat) : Int)) := by
  show some (Value.int .u8 (IntKind.u8.wrap ((k : Int) + 1))) = _
  rw [u8_in (by omega) (by omega)]; rfl
theorem one_sl : ∀ k < 16, (hexD.take (k + 1)).drop k = [hexD.getD k 0] := by decide +kernel
theorem one_at {s : List UInt8} {k : Nat} (h : k < s.length) : (s.take (k + 1)).drop k = [s.getD k 0] := by rw [take_gD h, List.drop_append_of_le_length (by simp; omega)]; simp
def kindsOk : Option Int → List Part → Bool
  | _, [] => true
  | pk, p :: r => if ((kindP p == 0) || pkEq pk (kindP p)) = true then false else kindsOk (some (kindP p)) r
theorem kindsOk_cons (pk : Option Int) (p : Part) (r : List Part) : kindsOk pk (p :: r) = if ((kindP p == 0) || pkEq pk (kindP p)) = true then false else kindsOk (some (kindP p)) r := rfl
def lensI : Int → Int → List Part → Option (Int × Int)
  | a, b, [] => some (a, b)
  | a, b, p :: r => if (decide (p.keep > 120) || decide (p.drop > 120)) = true then none else if (decide (a + (p.keep + p.drop) > 120) || decide (b + (p.keep + (p.put.length : Int)) > 120)) = true then none else lensI (a + (p.keep + p.drop)) (b + (p.keep + (p.put.length : Int))) r
theorem good_split (l : List Part) : ∀ (pk : Option Int) (a b : Int), 0 ≤ b → gspec pk a b l = (kindsOk pk l && (lensI a b l).isSome) := by
  induction l with
  | nil => intro pk a b hb; rfl
  | cons p r ih =>
    intro pk a b hb
    rw [gspec, kindsOk_cons, lensI]
    by_cases hk : ((kindP p == 0) || pkEq pk (kindP p)) = true
    · rw [if_pos hk, if_pos]; rfl
      unfold badP; rw [hk]; rfl
    · have hk2 : ((kindP p == 0) || pkEq pk (kindP p)) = false := by simpa using hk
      rw [if_neg hk]
      have hk0 := (Bool.or_eq_false_iff.1 hk2).1
      have hn := kind_nn hk0
      by_cases h1 : (decide (p.keep > 120) || decide (p.drop > 120)) = true
      · rw [if_pos h1, if_pos]; simp
        unfold badP; rw [hk2, Bool.false_or, h1]; rfl
      · have h12 : (decide (p.keep > 120) || decide (p.drop > 120)) = false := by simpa using h1
        rw [if_neg h1]
        by_cases h2 : (decide (a + (p.keep + p.drop) > 120) || decide (b + (p.keep + (p.put.length : Int)) > 120)) = true
        · rw [if_pos h2, if_pos h2]; simp
        · rw [if_neg h2, if_neg h2, if_neg]
          · exact ih _ _ _ (by omega)
          · unfold badP; rw [hk2, Bool.false_or, h12, Bool.false_or]
            simp only [Bool.or_eq_true, decide_eq_true_eq, not_or] at h2
            simp; omega
def lenV (o : Option (Int × Int)) : Value := .tuple #[.int .i64 (o.getD (0, 0)).1, .int .i64 (o.getD (0, 0)).2, .bool o.isSome]
theorem lens_done {l : List Part} {k : Nat} {a b : Int} (hi : lensI 0 0 l = lensI a b (l.drop k)) (hk : l.length ≤ k) : lensI 0 0 l = some (a, b) := by rw [hi, List.drop_of_length_le hk]; rfl
theorem lens_a {l : List Part} {k : Nat} {a b : Int} (hi : lensI 0 0 l = lensI a b (l.drop k)) (hk : k < l.length) (h : (decide ((l.getD k p0).keep > 120) || decide ((l.getD k p0).drop > 120)) = true) : lensI 0 0 l = none := by rw [hi, dropP hk, lensI, if_pos h]
theorem lens_b {l : List Part} {k : Nat} {a b : Int} (hi : lensI 0 0 l = lensI a b (l.drop k)) (hk : k < l.length) (h : (decide ((l.getD k p0).keep > 120) || decide ((l.getD k p0).drop > 120)) = false)
    (h2 : (decide (a + ((l.getD k p0).keep + (l.getD k p0).drop) > 120) || decide (b + ((l.getD k p0).keep + ((l.getD k p0).put.length : Int)) > 120)) = true) : lensI 0 0 l = none := by rw [hi, dropP hk, lensI, if_neg (by rw [h]; decide), if_pos h2]
theorem lens_on {l : List Part} {k : Nat} {a b : Int} (hi : lensI 0 0 l = lensI a b (l.drop k)) (hk : k < l.length) (h : (decide ((l.getD k p0).keep > 120) || decide ((l.getD k p0).drop > 120)) = false)
    (h2 : (decide (a + ((l.getD k p0).keep + (l.getD k p0).drop) > 120) || decide (b + ((l.getD k p0).keep + ((l.getD k p0).put.length : Int)) > 120)) = false) :
    lensI 0 0 l = lensI (a + ((l.getD k p0).keep + (l.getD k p0).drop)) (b + ((l.getD k p0).keep + ((l.getD k p0).put.length : Int))) (l.drop (k + 1)) := by
  rw [hi, dropP hk, lensI, if_neg (by rw [h]; decide), if_neg (by rw [h2]; decide)]
theorem getD_mem {l : List Part} {k : Nat} (h : k < l.length) : l.getD k p0 ∈ l := by simp [List.getD, List.getElem?_eq_getElem h]
theorem pk_kind (l : List Part) (k : Nat) (p : Part) : ((kindP p == 0) || (decide ((k : Int) > 0) && (kindP (l.getD (k - 1) p0) == kindP p))) = ((kindP p == 0) || pkEq (pkAt l k) (kindP p)) := by
  unfold pkAt
  by_cases h : 0 < k
  · rw [if_pos h]; simp [h, pkEq]
  · rw [if_neg h]; simp [h, pkEq]
theorem ks_done {l : List Part} {k : Nat} (hi : kindsOk none l = kindsOk (pkAt l k) (l.drop k)) (hk : l.length ≤ k) : kindsOk none l = true := by rw [hi, List.drop_of_length_le hk]; rfl
theorem ks_bad {l : List Part} {k : Nat} (hi : kindsOk none l = kindsOk (pkAt l k) (l.drop k)) (hk : k < l.length) (h : ((kindP (l.getD k p0) == 0) || pkEq (pkAt l k) (kindP (l.getD k p0))) = true) : kindsOk none l = false := by
  rw [hi, dropP hk, kindsOk_cons, if_pos h]
theorem ks_on {l : List Part} {k : Nat} (hi : kindsOk none l = kindsOk (pkAt l k) (l.drop k)) (hk : k < l.length) (h : ((kindP (l.getD k p0) == 0) || pkEq (pkAt l k) (kindP (l.getD k p0))) = false) : kindsOk none l = kindsOk (pkAt l (k + 1)) (l.drop (k + 1)) := by
  rw [hi, dropP hk, kindsOk_cons, if_neg (by rw [h]; decide)]; simp [pkAt]
theorem ks_all : ∀ (l : List Part) (pk : Option Int), kindsOk pk l = true → ∀ p ∈ l, (kindP p == 0) = false
  | [], _, _, p, hp => by simp at hp
  | q :: r, pk, h, p, hp => by
    rw [kindsOk_cons] at h
    split at h
    · cases h
    · rename_i hn
      rcases List.mem_cons.1 hp with rfl | hp
      · have : ((kindP p == 0) || pkEq pk (kindP p)) = false := by simpa using hn
        exact (Bool.or_eq_false_iff.1 this).1
      · exact ks_all r _ h p hp

/-! impl.isPlain -/
theorem implPlain (b : UInt8) (w : World) : CV Tryd.prog 52 [.int .u8 b.toNat] w (.bool (plain b)) := by
  refine CV.of ?_
  refine enter Tryd.func52 rfl rfl rfl (Sat.start w) ?_
  simp only [mkL]
  refine WC.seq ?_
  refine WC.region ?_
  refine WO.val (.asg (.r rfl)) rfl ?_
  refine WO.nil ?_
  refine KQ.seq ?_
  refine WC.seq ?_
  refine WC.region ?_
  refine WO.val (.mv (.r rfl)) rfl ?_
  refine WO.val (.bin (.r rfl) (.r rfl) rfl) rfl ?_
  refine WO.val (.mv (.r rfl)) rfl ?_
  refine WO.gd rfl rfl rfl (fun h => (.mv (.r rfl))) ?_
  refine WO.gd rfl rfl rfl (fun h => (.bin (.g h rfl) (.r rfl) rfl)) ?_
  refine WO.val (.and rfl rfl) rfl ?_
  refine WO.val (.mv (.r rfl)) rfl ?_
  refine WO.gd rfl rfl rfl (fun h => (.mv (.r rfl))) ?_
  refine WO.gd rfl rfl rfl (fun h => (.bin (.g h rfl) (.r rfl) rfl)) ?_
  refine WO.gd rfl rfl rfl (fun h => (.mv (.g h rfl))) ?_
  refine WO.gdN rfl rfl rfl (fun h => (.mv (.r rfl))) ?_
  refine WO.gdN rfl rfl rfl (fun h => (.bin (.g h rfl) (.r rfl) rfl)) ?_
  refine WO.gd rfl rfl rfl (fun h => (.andN h rfl rfl)) ?_
  refine WO.val (.or rfl rfl) rfl ?_
  refine WO.val (.mv (.r rfl)) rfl ?_
  refine WO.gd rfl rfl rfl (fun h => (.mv (.r rfl))) ?_
  refine WO.gd rfl rfl rfl (fun h => (.bin (.g h rfl) (.r rfl) rfl)) ?_
  refine WO.gd rfl rfl rfl (fun h => (.mv (.g h rfl))) ?_
  refine WO.gdN rfl rfl rfl (fun h => (.mv (.r rfl))) ?_
  refine WO.gdN rfl rfl rfl (fun h => (.bin (.g h rfl) (.r rfl) rfl)) ?_
  refine WO.gd rfl rfl rfl (fun h => (.andN h rfl rfl)) ?_
  refine WO.val (.or rfl rfl) rfl ?_
  refine WO.val (.asg (.r rfl)) rfl ?_
  refine WO.nil ?_
  refine KQ.seq ?_
  refine WC.ret ?_
  exact KQ.fin rfl (.tmp rfl .nil) (fun w hw => ⟨(), rfl, hw⟩)
/-! impl.coded -/
theorem implCoded (s : List UInt8) (hs : s.length ≤ 4194304) (w : World) : CV Tryd.prog 34 [str s] w (str (codedL s)) := by
  refine CV.of ?_
  refine enter Tryd.func34 rfl rfl rfl (Sat.start w) ?_
  simp only [mkL]
  refine WC.seq ?_
  refine WC.region ?_
  refine WO.val (.asg (.r rfl)) rfl ?_
  refine WO.nil ?_
  refine KQ.seq ?_
  refine WC.seq ?_
  refine WC.region ?_
  refine WO.val (.asg (.r rfl)) rfl ?_
  refine WO.nil ?_
  refine KQ.seq ?_
  refine WC.seq ?_
  refine WC.seq ?_
  refine WC.region ?_
  refine WO.val (.mv (.r rfl)) rfl ?_
  refine WO.val (.lenT Tryd.underlying9 (.r rfl)) rfl ?_
  refine WO.val (.mv (.r rfl)) rfl ?_
  refine WO.nil ?_
  refine KQ.seq ?_
  refine WC.block ?_
  refine WC.loop (fun k => [(0, str s), (3, str (codedL (s.take k))), (7, .int .i64 (s.length : Nat)), (8, .int .i64 (k : Nat))]) (fun k => []) (fun k => s.length - k) (0) (by exact ⟨rfl, rfl, rfl, rfl, trivial⟩) (fun w hw => hw) ?_
  rintro k
  refine WC.seq ?_
  refine WC.region ?_
  refine WO.val (.bin (.r rfl) (.r rfl) rfl) rfl ?_
  refine WO.nil ?_
  refine KQ.seq ?_
  refine WC.seq ?_
  refine WC.cond rfl (fun c1 => ?_) (fun c1 => ?_)
  · have hk := lt_of_dec c1
    have hcl := codedL_len (s.take k)
    rw [List.length_take] at hcl
    have hbb := (s.getD k 0).toNat_lt
    refine WC.skip ?_
    refine KQ.seq ?_
    refine WC.seq ?_
    refine WC.block ?_
    refine WC.seq ?_
    refine WC.region ?_
    refine WO.val (.mv (.r rfl)) rfl ?_
    refine WO.val (.asg (.r rfl)) rfl ?_
    refine WO.nil ?_
    refine KQ.seq ?_
    refine WC.seq ?_
    refine WC.region ?_
    refine WO.val (.mv (.r rfl)) rfl ?_
    refine WO.val (.mv (.r rfl)) rfl ?_
    refine WO.val (.ixT Tryd.underlying9 (.r rfl) (.r rfl) (gD hk)) rfl ?_
    refine WO.val (.asg (.r rfl)) rfl ?_
    refine WO.nil ?_
    refine KQ.seq ?_
    refine WC.seq ?_
    refine WC.region ?_
    refine WO.val (.mv (.r rfl)) rfl ?_
    refine WO.callS rfl ent_52 rfl (fun w hw => implPlain (s.getD k 0) w) ?_
    refine WO.nil ?_
    refine KQ.seq ?_
    refine WC.cond rfl (fun c2 => ?_) (fun c2 => ?_)
    · refine WC.region ?_
      refine WO.val (.mv (.r rfl)) rfl ?_
      refine WO.val (.mv (.r rfl)) rfl ?_
      refine WO.val (.mv (.r rfl)) rfl ?_
      refine WO.val (.mv (.r rfl)) rfl ?_
      refine WO.val (.bin (.r rfl) (.r rfl) (pb_inc (by omega))) rfl ?_
      refine WO.val (.slLH Tryd.underlying9 (.r rfl) (.r rfl) (.r rfl) (by omega) (by omega)) rfl ?_
      refine WO.val (.addS (.r rfl) (.r rfl) (by rw [one_at hk]; simp; omega)) rfl ?_
      refine WO.val (.asg (.r rfl)) rfl ?_
      refine WO.nil ?_
      refine KQ.blockN (KQ.seq ?_)
      refine WC.region ?_
      refine WO.val (.bin (.r rfl) (.r rfl) (pb_inc (by omega))) rfl ?_
      refine WO.val (.mv (.r rfl)) rfl ?_
      refine WO.nil ?_
      refine KQ.again (k + 1) (by omega) (by rw [codedL_take hk, codeB, if_pos c2]; exact ⟨rfl, by rw [← one_at hk]; rfl, rfl, rfl, trivial⟩) (fun w hw => hw)
    · refine WC.quiet (by kernel_rfl) (by kernel_rfl) ?_
      refine WQ.val (.mv (.r rfl)) rfl ?_
      refine WQ.val (.mv (.r rfl)) rfl ?_
      refine WQ.val (.bin (.r rfl) (.r rfl) (pb_shr4 (s.getD k 0))) rfl ?_
      refine WQ.val (.mv (.r rfl)) rfl ?_
      refine WQ.val (.bin (.r rfl) (.r rfl) (pb_shr4 (s.getD k 0))) rfl ?_
      refine WQ.val (.bin (.r rfl) (.r rfl) (pb_inc8 (by omega))) rfl ?_
      refine WQ.val (.slLH Tryd.underlying9 (.r rfl) (.r rfl) (.r rfl) (s := hexD) (by omega) (by show _ ≤ 16; omega)) rfl ?_
      refine WQ.val (.addS (.r rfl) (.r rfl) (a := [37]) (by rw [one_sl _ (by omega)]; simp)) rfl ?_
      refine WQ.val (.mv (.r rfl)) rfl ?_
      refine WQ.val (.bin (.r rfl) (.r rfl) (pb_and15 (s.getD k 0))) rfl ?_
      refine WQ.val (.mv (.r rfl)) rfl ?_
      refine WQ.val (.bin (.r rfl) (.r rfl) (pb_and15 (s.getD k 0))) rfl ?_
      refine WQ.val (.bin (.r rfl) (.r rfl) (pb_inc8 (by omega))) rfl ?_
      refine WQ.val (.slLH Tryd.underlying9 (.r rfl) (.r rfl) (.r rfl) (s := hexD) (by omega) (by show _ ≤ 16; omega)) rfl ?_
      refine WQ.val (.addS (.r rfl) (.r rfl) (by rw [one_sl _ (by omega), one_sl _ (by omega)]; simp)) rfl ?_
      refine WQ.val (.addS (.r rfl) (.r rfl) (by rw [one_sl _ (by omega), one_sl _ (by omega)]; simp; omega)) rfl ?_
      refine WQ.val (.asg (.r rfl)) rfl ?_
      refine WQ.nil ?_
      refine KQ.blockN (KQ.seq ?_)
      refine WC.region ?_
      refine WO.val (.bin (.r rfl) (.r rfl) (pb_inc (by omega))) rfl ?_
      refine WO.val (.mv (.r rfl)) rfl ?_
      refine WO.nil ?_
      refine KQ.again (k + 1) (by omega) (by rw [codedL_take hk, codeB, if_neg (by rw [c2]; decide)]; exact ⟨rfl, by rw [show [37, hexD.getD ((s.getD k 0).toNat / 16) 0, hexD.getD ((s.getD k 0).toNat % 16) 0] = ([37] ++ (hexD.take ((s.getD k 0).toNat / 16 + 1)).drop ((s.getD k 0).toNat / 16)) ++ (hexD.take ((s.getD k 0).toNat % 16 + 1)).drop ((s.getD k 0).toNat % 16) from by rw [one_sl _ (by omega), one_sl _ (by omega)]; rfl]; rfl, rfl, rfl, trivial⟩) (fun w hw => hw)
  · refine WC.exit ?_
    refine KQ.thenX (KQ.thenX (KQ.blockX (KQ.seq ?_)))
    refine WC.seq ?_
    refine WC.region ?_
    refine WO.val (.mv (.r rfl)) rfl ?_
    refine WO.val (.asg (.r rfl)) rfl ?_
    refine WO.nil ?_
    refine KQ.seq ?_
    refine WC.ret ?_
    exact KQ.fin rfl (.tmp rfl .nil) (fun w hw => ⟨(), by rw [show codedL s = codedL (s.take k) from by rw [List.take_of_length_le (ge_of_dec c1)]]; rfl, hw⟩)
/-! (impl.Part).kind -/
theorem implKind (p : Part) (w : World) : CV Tryd.prog 35 [.agg (cPart p).toArray] w (.int .i64 (kindP p)) := by
  refine CV.of ?_
  refine enter Tryd.func35 rfl rfl rfl (Sat.start w) ?_
  simp only [mkL]
  refine WC.seq ?_
  refine WC.region ?_
  refine WO.bx rfl rfl rfl fun g1 => ?_
  refine WO.val (.asg (.r rfl)) rfl ?_
  refine WO.nil ?_
  refine KQ.seq ?_
  refine WC.seq ?_
  refine WC.block ?_
  refine WC.seq ?_
  refine WC.region ?_
  refine WO.val (.faL fld_36_0 (.r rfl) rfl) rfl ?_
  refine WO.val (.ldB (k := 0) one_3 (.r rfl) rfl rfl) rfl ?_
  refine WO.val (.bin (.r rfl) (.r rfl) rfl) rfl ?_
  refine WO.val (.mv (.r rfl)) rfl ?_
  refine WO.gd rfl rfl rfl (fun h => (.faL fld_36_1 (.r rfl) rfl)) ?_
  refine WO.gd rfl rfl rfl (fun h => (.ldB (k := 0) one_3 (.g h rfl) rfl rfl)) ?_
  refine WO.gd rfl rfl rfl (fun h => (.bin (.g h rfl) (.r rfl) rfl)) ?_
  refine WO.val (.and rfl rfl) rfl ?_
  refine WO.val (.mv (.r rfl)) rfl ?_
  refine WO.gd rfl rfl rfl (fun h => (.faL fld_36_2 (.r rfl) rfl)) ?_
  refine WO.gd rfl rfl rfl (fun h => (.ldB (k := 0) one_9 (.g h rfl) rfl rfl)) ?_
  refine WO.gd rfl rfl rfl (fun h => (.eqS (.g h rfl) (.r rfl))) ?_
  refine WO.val (.and rfl rfl) rfl ?_
  refine WO.val (.asg (.r rfl)) rfl ?_
  refine WO.nil ?_
  refine KQ.seq ?_
  refine WC.cond rfl (fun c1 => ?_) (fun c1 => ?_)
  · refine WC.seq ?_
    refine WC.region ?_
    refine WO.val (.asg (.r rfl)) rfl ?_
    refine WO.nil ?_
    refine KQ.seq ?_
    refine WC.ret ?_
    exact KQ.blockR (KQ.thenR (KQ.fin rfl (.tmp rfl .nil) (fun w hw => ⟨(), by rw [show kindP p = 1 from by unfold kindP; rw [if_pos (show k1 p = true from c1)]]; rfl, hw.none⟩)))
  · refine WC.seq ?_
    refine WC.region ?_
    refine WO.val (.faL fld_36_1 (.r rfl) rfl) rfl ?_
    refine WO.val (.ldB (k := 0) one_3 (.r rfl) rfl rfl) rfl ?_
    refine WO.val (.bin (.r rfl) (.r rfl) rfl) rfl ?_
    refine WO.val (.mv (.r rfl)) rfl ?_
    refine WO.gd rfl rfl rfl (fun h => (.faL fld_36_0 (.r rfl) rfl)) ?_
    refine WO.gd rfl rfl rfl (fun h => (.ldB (k := 0) one_3 (.g h rfl) rfl rfl)) ?_
    refine WO.gd rfl rfl rfl (fun h => (.bin (.g h rfl) (.r rfl) rfl)) ?_
    refine WO.val (.and rfl rfl) rfl ?_
    refine WO.val (.mv (.r rfl)) rfl ?_
    refine WO.gd rfl rfl rfl (fun h => (.faL fld_36_2 (.r rfl) rfl)) ?_
    refine WO.gd rfl rfl rfl (fun h => (.ldB (k := 0) one_9 (.g h rfl) rfl rfl)) ?_
    refine WO.gd rfl rfl rfl (fun h => (.eqS (.g h rfl) (.r rfl))) ?_
    refine WO.val (.and rfl rfl) rfl ?_
    refine WO.val (.asg (.r rfl)) rfl ?_
    refine WO.nil ?_
    refine KQ.seq ?_
    refine WC.cond rfl (fun c2 => ?_) (fun c2 => ?_)
    · have c2 : k2 p = true := by unfold k2; rw [Bool.and_comm (p.keep == 0)]; exact c2
      refine WC.seq ?_
      refine WC.region ?_
      refine WO.val (.asg (.r rfl)) rfl ?_
      refine WO.nil ?_
      refine KQ.seq ?_
      refine WC.ret ?_
      exact KQ.blockR (KQ.thenR (KQ.fin rfl (.tmp rfl .nil) (fun w hw => ⟨(), by rw [show kindP p = 2 from by unfold kindP; rw [if_neg (by rw [show k1 p = false from c1]; decide), if_pos (show k2 p = true from c2)]]; rfl, hw.none⟩)))
    · have c2 : k2 p = false := by unfold k2; rw [Bool.and_comm (p.keep == 0)]; exact c2
      refine WC.seq ?_
      refine WC.region ?_
      refine WO.val (.faL fld_36_2 (.r rfl) rfl) rfl ?_
      refine WO.val (.ldB (k := 0) one_9 (.r rfl) rfl rfl) rfl ?_
      refine WO.val (.neS (.r rfl) (.r rfl)) rfl ?_
      refine WO.val (.mv (.r rfl)) rfl ?_
      refine WO.gd rfl rfl rfl (fun h => (.faL fld_36_0 (.r rfl) rfl)) ?_
      refine WO.gd rfl rfl rfl (fun h => (.ldB (k := 0) one_3 (.g h rfl) rfl rfl)) ?_
      refine WO.gd rfl rfl rfl (fun h => (.bin (.g h rfl) (.r rfl) rfl)) ?_
      refine WO.val (.and rfl rfl) rfl ?_
      refine WO.val (.mv (.r rfl)) rfl ?_
      refine WO.gd rfl rfl rfl (fun h => (.faL fld_36_1 (.r rfl) rfl)) ?_
      refine WO.gd rfl rfl rfl (fun h => (.ldB (k := 0) one_3 (.g h rfl) rfl rfl)) ?_
      refine WO.gd rfl rfl rfl (fun h => (.bin (.g h rfl) (.r rfl) rfl)) ?_
      refine WO.val (.and rfl rfl) rfl ?_
      refine WO.val (.asg (.r rfl)) rfl ?_
      refine WO.nil ?_
      refine KQ.seq ?_
      refine WC.cond rfl (fun c3 => ?_) (fun c3 => ?_)
      · have c3 : k3 p = true := by revert c3; unfold k3; cases (p.keep == 0) <;> cases (p.drop == 0) <;> cases (p.put == []) <;> simp
        refine WC.seq ?_
        refine WC.region ?_
        refine WO.val (.asg (.r rfl)) rfl ?_
        refine WO.nil ?_
        refine KQ.seq ?_
        refine WC.ret ?_
        exact KQ.blockR (KQ.thenR (KQ.fin rfl (.tmp rfl .nil) (fun w hw => ⟨(), by rw [show kindP p = 3 from by unfold kindP; rw [if_neg (by rw [show k1 p = false from c1]; decide), if_neg (by rw [show k2 p = false from c2]; decide), if_pos (show k3 p = true from c3)]]; rfl, hw.none⟩)))
      · have c3 : k3 p = false := by revert c3; unfold k3; cases (p.keep == 0) <;> cases (p.drop == 0) <;> cases (p.put == []) <;> simp
        refine WC.skip ?_
        refine KQ.blockN (KQ.seq ?_)
        refine WC.seq ?_
        refine WC.region ?_
        refine WO.val (.asg (.r rfl)) rfl ?_
        refine WO.nil ?_
        refine KQ.seq ?_
        refine WC.ret ?_
        exact KQ.fin rfl (.tmp rfl .nil) (fun w hw => ⟨(), by rw [show kindP p = 0 from by unfold kindP; rw [if_neg (by rw [show k1 p = false from c1]; decide), if_neg (by rw [show k2 p = false from c2]; decide), if_neg (by rw [show k3 p = false from c3]; decide)]]; rfl, hw.none⟩)
/-! impl.lengths -/
theorem implLens (l : List Part) (A : Option Addr) (c : Nat) (w : World) (hr : RdL (hp w) rPart A l) (hl : l.length ≤ 9007199254740992) (hp0 : ∀ p ∈ l, (kindP p == 0) = false) (hq : ∀ p ∈ l, p.put.length ≤ 9007199254740992) : CV Tryd.prog 36 [.slice A l.length c] w (lenV (lensI 0 0 l)) := by
  refine CV.of ?_
  refine enter Tryd.func36 rfl rfl rfl (Sat.start w) ?_
  simp only [mkL]
  refine WC.seq ?_
  refine WC.region ?_
  refine WO.val (.asg (.r rfl)) rfl ?_
  refine WO.val (.asg (.r rfl)) rfl ?_
  refine WO.val (.asg (.r rfl)) rfl ?_
  refine WO.nil ?_
  refine KQ.seq ?_
  refine WC.seq ?_
  refine WC.region ?_
  refine WO.val (.asg (.r rfl)) rfl ?_
  refine WO.val (.asg (.r rfl)) rfl ?_
  refine WO.nil ?_
  refine KQ.seq ?_
  refine WC.seq ?_
  refine WC.seq ?_
  refine WC.region ?_
  refine WO.val (.mv (.r rfl)) rfl ?_
  refine WO.val (.len sli_22 (.r rfl)) rfl ?_
  refine WO.val (.mv (.r rfl)) rfl ?_
  refine WO.nil ?_
  refine KQ.seq ?_
  refine WC.block ?_
  refine WC.loop (σ := {p : Nat × Int × Int // lensI 0 0 l = lensI p.2.1 p.2.2 (l.drop p.1) ∧ 0 ≤ p.2.1 ∧ p.2.1 ≤ 120 ∧ 0 ≤ p.2.2 ∧ p.2.2 ≤ 120}) (fun q => [(0, .slice A l.length c), (5, .int .i64 q.1.2.1), (6, .int .i64 q.1.2.2), (9, .slice A l.length c), (10, .int .i64 (l.length : Nat)), (11, .int .i64 (q.1.1 : Nat))]) (fun q => []) (fun q => l.length - q.1.1) (⟨(0, 0, 0), by simp⟩) (by exact ⟨rfl, rfl, rfl, rfl, rfl, rfl, trivial⟩) (fun w hw => hw) ?_
  rintro ⟨⟨k, a, b⟩, hi, ha0, ha1, hb0, hb1⟩
  dsimp only at hi ha0 ha1 hb0 hb1
  dsimp only
  refine WC.seq ?_
  refine WC.region ?_
  refine WO.val (.bin (.r rfl) (.r rfl) rfl) rfl ?_
  refine WO.nil ?_
  refine KQ.seq ?_
  refine WC.seq ?_
  refine WC.cond rfl (fun c1 => ?_) (fun c1 => ?_)
  · have hk := lt_of_dec c1
    obtain ⟨ad, rfl, _, _, _⟩ := hr k hk
    have hn := kind_nn (hp0 _ (getD_mem hk))
    refine WC.skip ?_
    refine KQ.seq ?_
    refine WC.seq ?_
    refine WC.block ?_
    refine WC.seq ?_
    refine WC.region ?_
    refine WO.val (.ixn sli_22 (.r rfl) (.r rfl) hk) rfl ?_
    refine WO.val (.ldS (cs := cPart (l.getD k p0)) str_36 (.r rfl) rfl (fun w hw j u hu => hw.cell (rdD hr hk j u hu))) rfl ?_
    refine WO.al zer_36 rfl fun g1 => ?_
    refine WO.stW (k := 0) str_36 rfl rfl rfl rfl rfl rfl (by repeat constructor) ?_
    refine WO.nil ?_
    refine KQ.seq ?_
    refine WC.seq ?_
    refine WC.seq ?_
    refine WC.region ?_
    refine WO.val (.faL fld_36_0 (.r rfl) rfl) rfl ?_
    refine WO.val (.ldB (k := 0) one_3 (.r rfl) rfl rfl) rfl ?_
    refine WO.val (.bin (.r rfl) (.r rfl) rfl) rfl ?_
    refine WO.val (.mv (.r rfl)) rfl ?_
    refine WO.gd rfl rfl rfl (fun h => (.faL fld_36_1 (.r rfl) rfl)) ?_
    refine WO.gd rfl rfl rfl (fun h => (.ldB (k := 0) one_3 (.g h rfl) rfl rfl)) ?_
    refine WO.gd rfl rfl rfl (fun h => (.bin (.g h rfl) (.r rfl) rfl)) ?_
    refine WO.val (.or rfl rfl) rfl ?_
    refine WO.nil ?_
    refine KQ.seq ?_
    refine WC.cond rfl (fun c2 => ?_) (fun c2 => ?_)
    · refine WC.seq ?_
      refine WC.region ?_
      refine WO.val (.asg (.r rfl)) rfl ?_
      refine WO.val (.asg (.r rfl)) rfl ?_
      refine WO.val (.asg (.r rfl)) rfl ?_
      refine WO.nil ?_
      refine KQ.seq ?_
      refine WC.ret ?_
      exact KQ.thenR (KQ.blockR (KQ.thenR (KQ.thenR (KQ.blockR (KQ.thenR (KQ.fin rfl (.tmp rfl (.tmp rfl (.tmp rfl .nil))) (fun w hw => ⟨(), by rw [show lensI 0 0 l = none from lens_a hi hk c2]; rfl, hw.none⟩)))))))
    · have h2 := c2
      simp only [Bool.or_eq_false_iff, decide_eq_false_iff_not] at h2
      have hpl : (l.getD k p0).put.length ≤ 9007199254740992 := hq _ (getD_mem hk)
      refine WC.skip ?_
      refine KQ.seq ?_
      refine WC.seq ?_
      refine WC.region ?_
      refine WO.val (.mv (.r rfl)) rfl ?_
      refine WO.val (.faL fld_36_0 (.r rfl) rfl) rfl ?_
      refine WO.val (.ldB (k := 0) one_3 (.r rfl) rfl rfl) rfl ?_
      refine WO.val (.faL fld_36_1 (.r rfl) rfl) rfl ?_
      refine WO.val (.ldB (k := 0) one_3 (.r rfl) rfl rfl) rfl ?_
      refine WO.val (.bin (.r rfl) (.r rfl) (pb_add (by omega) (by omega))) rfl ?_
      refine WO.val (.bin (.r rfl) (.r rfl) (pb_add (by omega) (by omega))) rfl ?_
      refine WO.val (.asg (.r rfl)) rfl ?_
      refine WO.nil ?_
      refine KQ.seq ?_
      refine WC.seq ?_
      refine WC.region ?_
      refine WO.val (.mv (.r rfl)) rfl ?_
      refine WO.val (.faL fld_36_0 (.r rfl) rfl) rfl ?_
      refine WO.val (.ldB (k := 0) one_3 (.r rfl) rfl rfl) rfl ?_
      refine WO.val (.faL fld_36_2 (.r rfl) rfl) rfl ?_
      refine WO.val (.ldB (k := 0) one_9 (.r rfl) rfl rfl) rfl ?_
      refine WO.val (.lenT Tryd.underlying9 (.r rfl)) rfl ?_
      refine WO.val (.bin (.r rfl) (.r rfl) (pb_add (by omega) (by omega))) rfl ?_
      refine WO.val (.bin (.r rfl) (.r rfl) (pb_add (by omega) (by omega))) rfl ?_
      refine WO.val (.asg (.r rfl)) rfl ?_
      refine WO.nil ?_
      refine KQ.seq ?_
      refine WC.seq ?_
      refine WC.region ?_
      refine WO.val (.mv (.r rfl)) rfl ?_
      refine WO.val (.bin (.r rfl) (.r rfl) rfl) rfl ?_
      refine WO.val (.mv (.r rfl)) rfl ?_
      refine WO.gd rfl rfl rfl (fun h => (.mv (.r rfl))) ?_
      refine WO.gd rfl rfl rfl (fun h => (.bin (.g h rfl) (.r rfl) rfl)) ?_
      refine WO.val (.or rfl rfl) rfl ?_
      refine WO.nil ?_
      refine KQ.seq ?_
      refine WC.cond rfl (fun c3 => ?_) (fun c3 => ?_)
      · refine WC.seq ?_
        refine WC.region ?_
        refine WO.val (.asg (.r rfl)) rfl ?_
        refine WO.val (.asg (.r rfl)) rfl ?_
        refine WO.val (.asg (.r rfl)) rfl ?_
        refine WO.nil ?_
        refine KQ.seq ?_
        refine WC.ret ?_
        exact KQ.blockR (KQ.thenR (KQ.thenR (KQ.blockR (KQ.thenR (KQ.fin rfl (.tmp rfl (.tmp rfl (.tmp rfl .nil))) (fun w hw => ⟨(), by rw [show lensI 0 0 l = none from lens_b hi hk c2 c3]; rfl, hw.none⟩))))))
      · refine WC.skip ?_
        refine KQ.blockN (KQ.seq ?_)
        refine WC.region ?_
        refine WO.val (.bin (.r rfl) (.r rfl) (pb_inc (by omega))) rfl ?_
        refine WO.val (.mv (.r rfl)) rfl ?_
        refine WO.nil ?_
        refine KQ.again (⟨(k + 1, a + ((l.getD k p0).keep + (l.getD k p0).drop), b + ((l.getD k p0).keep + ((l.getD k p0).put.length : Int))), lens_on hi hk c2 c3, by simp only [Bool.or_eq_false_iff, decide_eq_false_iff_not] at c3; dsimp only; omega⟩) (by dsimp only; omega) (by exact ⟨rfl, rfl, rfl, rfl, rfl, rfl, trivial⟩) (fun w hw => hw.none)
  · refine WC.exit ?_
    refine KQ.thenX (KQ.thenX (KQ.blockX (KQ.seq ?_)))
    refine WC.seq ?_
    refine WC.region ?_
    refine WO.val (.mv (.r rfl)) rfl ?_
    refine WO.val (.mv (.r rfl)) rfl ?_
    refine WO.val (.asg (.r rfl)) rfl ?_
    refine WO.val (.asg (.r rfl)) rfl ?_
    refine WO.val (.asg (.r rfl)) rfl ?_
    refine WO.nil ?_
    refine KQ.seq ?_
    refine WC.ret ?_
    exact KQ.fin rfl (.tmp rfl (.tmp rfl (.tmp rfl .nil))) (fun w hw => ⟨(), by rw [show lensI 0 0 l = some (a, b) from lens_done hi (ge_of_dec c1)]; rfl, hw.none⟩)
/-! impl.GoodChange -/
theorem implGood (l : List Part) (A : Option Addr) (c : Nat) (w : World) (hr : RdL (hp w) rPart A l) (hl : l.length ≤ 9007199254740992) (hq : ∀ p ∈ l, p.put.length ≤ 9007199254740992) : CV Tryd.prog 21 [.slice A l.length c] w (.bool (good l)) := by
  refine CV.of ?_
  refine enter Tryd.func21 rfl rfl rfl (Sat.start w) ?_
  simp only [mkL]
  refine WC.seq ?_
  refine WC.region ?_
  refine WO.val (.asg (.r rfl)) rfl ?_
  refine WO.nil ?_
  refine KQ.seq ?_
  refine WC.seq ?_
  refine WC.seq ?_
  refine WC.region ?_
  refine WO.val (.mv (.r rfl)) rfl ?_
  refine WO.val (.len sli_22 (.r rfl)) rfl ?_
  refine WO.val (.mv (.r rfl)) rfl ?_
  refine WO.nil ?_
  refine KQ.seq ?_
  refine WC.block ?_
  refine WC.loop (σ := {k : Nat // kindsOk none l = kindsOk (pkAt l k) (l.drop k)}) (fun q => [(0, .slice A l.length c), (9, .slice A l.length c), (10, .int .i64 (l.length : Nat)), (11, .int .i64 (q.1 : Nat))]) (fun q => []) (fun q => l.length - q.1) (⟨0, by simp [pkAt]⟩) (by exact ⟨rfl, rfl, rfl, rfl, trivial⟩) (fun w hw => hw) ?_
  rintro ⟨k, hi⟩
  dsimp only
  refine WC.seq ?_
  refine WC.region ?_
  refine WO.val (.bin (.r rfl) (.r rfl) rfl) rfl ?_
  refine WO.nil ?_
  refine KQ.seq ?_
  refine WC.seq ?_
  refine WC.cond rfl (fun c1 => ?_) (fun c1 => ?_)
  · have hk := lt_of_dec c1
    obtain ⟨ad, rfl, _, _, _⟩ := hr k hk
    refine WC.skip ?_
    refine KQ.seq ?_
    refine WC.seq ?_
    refine WC.block ?_
    refine WC.seq ?_
    refine WC.region ?_
    refine WO.val (.mv (.r rfl)) rfl ?_
    refine WO.val (.ixn sli_22 (.r rfl) (.r rfl) hk) rfl ?_
    refine WO.val (.ldS (cs := cPart (l.getD k p0)) str_36 (.r rfl) rfl (fun w hw j u hu => hw.cell (rdD hr hk j u hu))) rfl ?_
    refine WO.al zer_36 rfl fun g1 => ?_
    refine WO.val (.asg (.r rfl)) rfl ?_
    refine WO.stW (k := 0) str_36 rfl rfl rfl rfl rfl rfl (by repeat constructor) ?_
    refine WO.nil ?_
    refine KQ.seq ?_
    refine WC.seq ?_
    refine WC.region ?_
    refine WO.val (.ldW (k := 0) str_36 (.r rfl) rfl rfl) rfl ?_
    refine WO.callS rfl ent_35 rfl (fun w hw => implKind (l.getD k p0) w) ?_
    refine WO.val (.asg (.r rfl)) rfl ?_
    refine WO.nil ?_
    refine KQ.seq ?_
    refine WC.seq ?_
    refine WC.region ?_
    refine WO.val (.mv (.r rfl)) rfl ?_
    refine WO.val (.bin (.r rfl) (.r rfl) rfl) rfl ?_
    refine WO.val (.mv (.r rfl)) rfl ?_
    refine WO.gd rfl rfl rfl (fun h => (.mv (.r rfl))) ?_
    refine WO.gd rfl rfl rfl (fun h => (.bin (.g h rfl) (.r rfl) rfl)) ?_
    refine WO.gd rfl rfl rfl (fun h => (.mv (.g h rfl))) ?_
    refine WO.gdN rfl rfl rfl (fun h => (.mv (.r rfl))) ?_
    refine WO.gdN rfl rfl rfl (fun h => (.mv (.r rfl))) ?_
    refine WO.gdN rfl rfl rfl (fun h => (.bin (.g h rfl) (.r rfl) (pb_dec (by simp at h; omega) (by omega)))) ?_
    refine WO.gdN rfl rfl rfl (fun h => (.ixn (k := k - 1) sli_22 (.g h rfl) (.g h rfl) (by omega))) ?_
    refine WO.gdN rfl rfl rfl (fun h => (.ldS (cs := cPart (l.getD (k - 1) p0)) str_36 (.g h rfl) rfl (fun w hw j u hu => hw.cell (rdD hr (by omega) j u hu)))) ?_
    refine WO.gdCN rfl rfl rfl ent_35 (fun h => ⟨.cons (.g h rfl) (.nil), fun w hw => implKind (l.getD (k - 1) p0) w⟩) ?_
    refine WO.gdN rfl rfl rfl (fun h => (.mv (.r rfl))) ?_
    refine WO.gdN rfl rfl rfl (fun h => (.bin (.g h rfl) (.g h rfl) rfl)) ?_
    refine WO.gd rfl rfl rfl (fun h => (.andN h rfl rfl)) ?_
    refine WO.val (.or rfl rfl) rfl ?_
    refine WO.nil ?_
    refine KQ.seq ?_
    refine WC.cond rfl (fun c2 => ?_) (fun c2 => ?_)
    · have c2 := (pk_kind l k (l.getD k p0)).symm.trans c2
      refine WC.seq ?_
      refine WC.region ?_
      refine WO.val (.asg (.r rfl)) rfl ?_
      refine WO.nil ?_
      refine KQ.seq ?_
      refine WC.ret ?_
      exact KQ.blockR (KQ.thenR (KQ.thenR (KQ.blockR (KQ.thenR (KQ.fin rfl (.tmp rfl .nil) (fun w hw => ⟨(), by rw [show good l = false from by rw [good, good_split l none 0 0 (by decide), ks_bad hi hk c2]; rfl]; rfl, hw.none⟩))))))
    · have c2 := (pk_kind l k (l.getD k p0)).symm.trans c2
      refine WC.skip ?_
      refine KQ.blockN (KQ.seq ?_)
      refine WC.region ?_
      refine WO.val (.bin (.r rfl) (.r rfl) (pb_inc (by omega))) rfl ?_
      refine WO.val (.mv (.r rfl)) rfl ?_
      refine WO.nil ?_
      refine KQ.again (⟨k + 1, ks_on hi hk c2⟩) (by dsimp only; omega) (by exact ⟨rfl, rfl, rfl, rfl, trivial⟩) (fun w hw => hw.none)
  · have hks := ks_done hi (ge_of_dec c1)
    refine WC.exit ?_
    refine KQ.thenX (KQ.thenX (KQ.blockX (KQ.seq ?_)))
    refine WC.seq ?_
    refine WC.region ?_
    refine WO.val (.mv (.r rfl)) rfl ?_
    refine WO.callS rfl ent_36 rfl (fun w hw => implLens l A c w (hr.mono hw.old) hl (ks_all l none hks) hq) ?_
    refine WO.val (.mv (.r rfl)) rfl ?_
    refine WO.val (.ext (.r rfl) rfl) rfl ?_
    refine WO.val (.ext (.r rfl) rfl) rfl ?_
    refine WO.val (.ext (.r rfl) rfl) rfl ?_
    refine WO.val (.asg (.r rfl)) rfl ?_
    refine WO.val (.asg (.r rfl)) rfl ?_
    refine WO.val (.asg (.r rfl)) rfl ?_
    refine WO.nil ?_
    refine KQ.seq ?_
    refine WC.seq ?_
    refine WC.region ?_
    refine WO.val (.mv (.r rfl)) rfl ?_
    refine WO.val (.asg (.r rfl)) rfl ?_
    refine WO.nil ?_
    refine KQ.seq ?_
    refine WC.ret ?_
    exact KQ.fin rfl (.tmp rfl .nil) (fun w hw => ⟨(), by rw [show good l = (lensI 0 0 l).isSome from by rw [good, good_split l none 0 0 (by decide), hks]; rfl]; rfl, hw.none⟩)
end Go.Proofs.YtfnaplhjkapghaaDoor
