/- A part of the proofs of this seat: contracts of the functions that its statements reach. -/
import Derived.Test.YtfnaplhjkapghaaDoorT3
import Derived.Test.YtfnaplhjkapghaaDoorProg
set_option linter.unusedVariables false
set_option linter.unusedSimpArgs false
set_option maxRecDepth 4000
namespace Go.Proofs.YtfnaplhjkapghaaDoor
open Go Go.RowKit Go.Proofs.YtfnaplhjkapghaaDoor.Sp
theorem sli_22 : Sli Tryd.prog 22 36 3 32 (.agg #[.int .i64 0, .int .i64 0, .string ⟨#[]⟩]) := .of Tryd.underlying22 (by kernel_rfl) rfl (by decide)
theorem str_36 : Str Tryd.prog 36 3 := .of (by kernel_rfl)
theorem zer_36 : Zer Tryd.prog 36 (.agg #[.int .i64 0, .int .i64 0, .string ⟨#[]⟩]) 3 := .of (by kernel_rfl)
theorem ent_29 : Ent Tryd.prog 29 := ent_of Tryd.prog Tryd.func29 rfl rfl

theorem pb_dec {k : Nat} (h0 : 0 < k) (h : k ≤ 9223372036854775807) : pbin .sub (.int .i64 (k : Int)) (.int .i64 1) = some (.int .i64 ((k - 1 : Nat) : Int)) := by
  rw [pb_sub (by omega) (by omega)]; congr 2; omega
def p0 : Part := ⟨0, 0, []⟩
theorem rdD {H : HP} {ad : Addr} {l : List Part} (hr : RdL H rPart (some ad) l) {k : Nat} (hk : k < l.length) : ∀ j u, (cPart (l.getD k p0))[j]? = some u → cellAt H ((ad.add (k * 3)).add j) = some u := by
  obtain ⟨ad', h1, cs, rfl, h2⟩ := hr k hk
  cases h1
  have e : l.getD k p0 = l[k] := by simp [List.getD, List.getElem?_eq_getElem hk]
  rw [e]; exact h2
theorem dropP {l : List Part} {k : Nat} (h : k < l.length) : l.drop k = l.getD k p0 :: l.drop (k + 1) := by
  rw [List.drop_eq_getElem_cons h]; simp [List.getD, List.getElem?_eq_getElem h]
def pkEq : Option Int → Int → Bool
  | none, _ => false
  | some x, k => x == k
def badP (pk : Option Int) (p : Part) : Bool := ((((kindP p == 0) || pkEq pk (kindP p)) || decide (p.keep > 120)) || decide (p.drop > 120)) || decide ((p.put.length : Int) > 120)
def gspec : Option Int → Int → Int → List Part → Bool
  | _, _, _, [] => true
  | pk, a, b, p :: r => if badP pk p = true then false else if (decide (a + (p.keep + p.drop) > 120) || decide (b + (p.keep + (p.put.length : Int)) > 120)) = true then false else gspec (some (kindP p)) (a + (p.keep + p.drop)) (b + (p.keep + (p.put.length : Int))) r
def pkAt (l : List Part) (k : Nat) : Option Int := if 0 < k then some (kindP (l.getD (k - 1) p0)) else none
theorem pk_bad (l : List Part) (k : Nat) (p : Part) : (((((kindP p == 0) || (decide ((k : Int) > 0) && (kindP (l.getD (k - 1) p0) == kindP p))) || decide (p.keep > 120)) || decide (p.drop > 120)) || decide ((p.put.length : Int) > 120)) = badP (pkAt l k) p := by
  unfold badP pkAt
  by_cases h : 0 < k
  · rw [if_pos h]; simp [h, pkEq]
  · rw [if_neg h]; simp [h, pkEq]
def good (l : List Part) : Bool := gspec none 0 0 l
theorem good_done {l : List Part} {k : Nat} {a b : Int} (hi : good l = gspec (pkAt l k) a b (l.drop k)) (hk : l.length ≤ k) : good l = true := by rw [hi, List.drop_of_length_le hk]; rfl
theorem good_bad {l : List Part} {k : Nat} {a b : Int} (hi : good l = gspec (pkAt l k) a b (l.drop k)) (hk : k < l.length) (h : badP (pkAt l k) (l.getD k p0) = true) : good l = false := by rw [hi, dropP hk, gspec, if_pos h]
theorem good_big {l : List Part} {k : Nat} {a b : Int} (hi : good l = gspec (pkAt l k) a b (l.drop k)) (hk : k < l.length) (h : badP (pkAt l k) (l.getD k p0) = false)
    (h2 : (decide (a + ((l.getD k p0).keep + (l.getD k p0).drop) > 120) || decide (b + ((l.getD k p0).keep + ((l.getD k p0).put.length : Int)) > 120)) = true) : good l = false := by rw [hi, dropP hk, gspec, if_neg (by rw [h]; decide), if_pos h2]
theorem good_on {l : List Part} {k : Nat} {a b : Int} (hi : good l = gspec (pkAt l k) a b (l.drop k)) (hk : k < l.length) (h : badP (pkAt l k) (l.getD k p0) = false)
    (h2 : (decide (a + ((l.getD k p0).keep + (l.getD k p0).drop) > 120) || decide (b + ((l.getD k p0).keep + ((l.getD k p0).put.length : Int)) > 120)) = false) :
    good l = gspec (pkAt l (k + 1)) (a + ((l.getD k p0).keep + (l.getD k p0).drop)) (b + ((l.getD k p0).keep + ((l.getD k p0).put.length : Int))) (l.drop (k + 1)) := by
  rw [hi, dropP hk, gspec, if_neg (by rw [h]; decide), if_neg (by rw [h2]; decide)]; simp [pkAt]
theorem badP_ok {pk : Option Int} {p : Part} (h : badP pk p = false) : 0 ≤ p.keep ∧ 0 ≤ p.drop ∧ p.keep ≤ 120 ∧ p.drop ≤ 120 ∧ p.put.length ≤ 120 := by
  unfold badP at h
  simp only [Bool.or_eq_false_iff] at h
  obtain ⟨⟨⟨⟨h1, _⟩, h2⟩, h3⟩, h4⟩ := h
  have := kind_nn h1
  simp only [decide_eq_false_iff_not] at h2 h3 h4
  omega

/-! spec.GoodChange -/
theorem specGood (l : List Part) (A : Option Addr) (c : Nat) (w : World) (hr : RdL (hp w) rPart A l) (hl : l.length ≤ 9007199254740992) : CV Tryd.prog 17 [.slice A l.length c] w (.bool (good l)) := by
  refine CV.of ?_
  refine enter Tryd.func17 rfl rfl rfl (Sat.start w) ?_
  simp only [mkL]
  refine WC.seq ?_
  refine WC.region ?_
  refine WO.val (.asg (.r rfl)) rfl ?_
  refine WO.nil ?_
  refine KQ.seq ?_
  refine WC.seq ?_
  refine WC.region ?_
  refine WO.val (.asg (.r rfl)) rfl ?_
  refine WO.nil ?_
  refine KQ.seq ?_
  refine WC.seq ?_
  refine WC.region ?_
  refine WO.val (.asg (.r rfl)) rfl ?_
  refine WO.nil ?_
  refine KQ.seq ?_
  refine WC.seq ?_
  refine WC.seq ?_
  refine WC.region ?_
  refine WO.val (.mv (.r rfl)) rfl ?_
  refine WO.val (.len sli_22 (.r rfl)) rfl ?_
  refine WO.val (.mv (.r rfl)) rfl ?_
  refine WO.nil ?_
  refine KQ.seq ?_
  refine WC.block ?_
  refine WC.loop (σ := {p : Nat × Int × Int // good l = gspec (pkAt l p.1) p.2.1 p.2.2 (l.drop p.1) ∧ 0 ≤ p.2.1 ∧ p.2.1 ≤ 120 ∧ 0 ≤ p.2.2 ∧ p.2.2 ≤ 120}) (fun q => [(0, .slice A l.length c), (3, .int .i64 q.1.2.1), (4, .int .i64 q.1.2.2), (8, .slice A l.length c), (9, .int .i64 (l.length : Nat)), (10, .int .i64 (q.1.1 : Nat))]) (fun q => []) (fun q => l.length - q.1.1) (⟨(0, 0, 0), by simp [pkAt, good]⟩) (by exact ⟨rfl, rfl, rfl, rfl, rfl, rfl, trivial⟩) (fun w hw => hw) ?_
  rintro ⟨⟨k, a, b⟩, hi, ha0, ha1, hb0, hb1⟩
  dsimp only at hi ha0 ha1 hb0 hb1
  dsimp only
  refine WC.seq ?_
  refine WC.region ?_
  refine WO.val (.bin (.r rfl) (.r rfl) rfl) rfl ?_
  refine WO.nil ?_
  refine KQ.seq ?_
  refine WC.seq ?_
  refine WC.cond rfl (fun c1 => ?_) (fun c1 => ?_)
  · have hk := lt_of_dec c1
    obtain ⟨ad, rfl, _, _, _⟩ := hr k hk
    refine WC.skip ?_
    refine KQ.seq ?_
    refine WC.seq ?_
    refine WC.block ?_
    refine WC.seq ?_
    refine WC.region ?_
    refine WO.val (.mv (.r rfl)) rfl ?_
    refine WO.val (.ixn sli_22 (.r rfl) (.r rfl) hk) rfl ?_
    refine WO.val (.ldS (cs := cPart (l.getD k p0)) str_36 (.r rfl) rfl (fun w hw j u hu => hw.cell (rdD hr hk j u hu))) rfl ?_
    refine WO.al zer_36 rfl fun g1 => ?_
    refine WO.val (.asg (.r rfl)) rfl ?_
    refine WO.stW (k := 0) str_36 rfl rfl rfl rfl rfl rfl (by repeat constructor) ?_
    refine WO.nil ?_
    refine KQ.seq ?_
    refine WC.seq ?_
    refine WC.region ?_
    refine WO.val (.ldW (k := 0) str_36 (.r rfl) rfl rfl) rfl ?_
    refine WO.callS rfl ent_29 rfl (fun w hw => specKind (l.getD k p0) w) ?_
    refine WO.val (.asg (.r rfl)) rfl ?_
    refine WO.nil ?_
    refine KQ.seq ?_
    refine WC.seq ?_
    refine WC.seq ?_
    refine WC.region ?_
    refine WO.val (.mv (.r rfl)) rfl ?_
    refine WO.val (.bin (.r rfl) (.r rfl) rfl) rfl ?_
    refine WO.val (.mv (.r rfl)) rfl ?_
    refine WO.gd rfl rfl rfl (fun h => (.mv (.r rfl))) ?_
    refine WO.gd rfl rfl rfl (fun h => (.bin (.g h rfl) (.r rfl) rfl)) ?_
    refine WO.gd rfl rfl rfl (fun h => (.mv (.g h rfl))) ?_
    refine WO.gdN rfl rfl rfl (fun h => (.mv (.r rfl))) ?_
    refine WO.gdN rfl rfl rfl (fun h => (.mv (.r rfl))) ?_
    refine WO.gdN rfl rfl rfl (fun h => (.bin (.g h rfl) (.r rfl) (pb_dec (by simp at h; omega) (by omega)))) ?_
    refine WO.gdN rfl rfl rfl (fun h => (.ixn (k := k - 1) sli_22 (.g h rfl) (.g h rfl) (by omega))) ?_
    refine WO.gdN rfl rfl rfl (fun h => (.ldS (cs := cPart (l.getD (k - 1) p0)) str_36 (.g h rfl) rfl (fun w hw j u hu => hw.cell (rdD hr (by omega) j u hu)))) ?_
    refine WO.gdCN rfl rfl rfl ent_29 (fun h => ⟨.cons (.g h rfl) (.nil), fun w hw => specKind (l.getD (k - 1) p0) w⟩) ?_
    refine WO.gdN rfl rfl rfl (fun h => (.mv (.r rfl))) ?_
    refine WO.gdN rfl rfl rfl (fun h => (.bin (.g h rfl) (.g h rfl) rfl)) ?_
    refine WO.gd rfl rfl rfl (fun h => (.andN h rfl rfl)) ?_
    refine WO.val (.or rfl rfl) rfl ?_
    refine WO.val (.mv (.r rfl)) rfl ?_
    refine WO.gd rfl rfl rfl (fun h => (.faL fld_36_0 (.r rfl) rfl)) ?_
    refine WO.gd rfl rfl rfl (fun h => (.ldB (k := 0) one_3 (.g h rfl) rfl rfl)) ?_
    refine WO.gd rfl rfl rfl (fun h => (.bin (.g h rfl) (.r rfl) rfl)) ?_
    refine WO.val (.or rfl rfl) rfl ?_
    refine WO.val (.mv (.r rfl)) rfl ?_
    refine WO.gd rfl rfl rfl (fun h => (.faL fld_36_1 (.r rfl) rfl)) ?_
    refine WO.gd rfl rfl rfl (fun h => (.ldB (k := 0) one_3 (.g h rfl) rfl rfl)) ?_
    refine WO.gd rfl rfl rfl (fun h => (.bin (.g h rfl) (.r rfl) rfl)) ?_
    refine WO.val (.or rfl rfl) rfl ?_
    refine WO.val (.mv (.r rfl)) rfl ?_
    refine WO.gd rfl rfl rfl (fun h => (.faL fld_36_2 (.r rfl) rfl)) ?_
    refine WO.gd rfl rfl rfl (fun h => (.ldB (k := 0) one_9 (.g h rfl) rfl rfl)) ?_
    refine WO.gd rfl rfl rfl (fun h => (.lenT Tryd.underlying9 (.g h rfl))) ?_
    refine WO.gd rfl rfl rfl (fun h => (.bin (.g h rfl) (.r rfl) rfl)) ?_
    refine WO.val (.or rfl rfl) rfl ?_
    refine WO.nil ?_
    refine KQ.seq ?_
    refine WC.cond rfl (fun c2 => ?_) (fun c2 => ?_)
    · have c2 := (pk_bad l k (l.getD k p0)).symm.trans c2
      refine WC.seq ?_
      refine WC.region ?_
      refine WO.val (.asg (.r rfl)) rfl ?_
      refine WO.nil ?_
      refine KQ.seq ?_
      refine WC.ret ?_
      exact KQ.thenR (KQ.blockR (KQ.thenR (KQ.thenR (KQ.blockR (KQ.thenR (KQ.fin rfl (.tmp rfl .nil) (fun w hw => ⟨(), by rw [show good l = false from good_bad hi hk c2]; rfl, hw.none⟩)))))))
    · have c2 := (pk_bad l k (l.getD k p0)).symm.trans c2
      have hb := badP_ok c2
      refine WC.skip ?_
      refine KQ.seq ?_
      refine WC.seq ?_
      refine WC.region ?_
      refine WO.val (.mv (.r rfl)) rfl ?_
      refine WO.val (.faL fld_36_0 (.r rfl) rfl) rfl ?_
      refine WO.val (.ldB (k := 0) one_3 (.r rfl) rfl rfl) rfl ?_
      refine WO.val (.faL fld_36_1 (.r rfl) rfl) rfl ?_
      refine WO.val (.ldB (k := 0) one_3 (.r rfl) rfl rfl) rfl ?_
      refine WO.val (.bin (.r rfl) (.r rfl) (pb_add (by omega) (by omega))) rfl ?_
      refine WO.val (.bin (.r rfl) (.r rfl) (pb_add (by omega) (by omega))) rfl ?_
      refine WO.val (.asg (.r rfl)) rfl ?_
      refine WO.nil ?_
      refine KQ.seq ?_
      refine WC.seq ?_
      refine WC.region ?_
      refine WO.val (.mv (.r rfl)) rfl ?_
      refine WO.val (.faL fld_36_0 (.r rfl) rfl) rfl ?_
      refine WO.val (.ldB (k := 0) one_3 (.r rfl) rfl rfl) rfl ?_
      refine WO.val (.faL fld_36_2 (.r rfl) rfl) rfl ?_
      refine WO.val (.ldB (k := 0) one_9 (.r rfl) rfl rfl) rfl ?_
      refine WO.val (.lenT Tryd.underlying9 (.r rfl)) rfl ?_
      refine WO.val (.bin (.r rfl) (.r rfl) (pb_add (by omega) (by omega))) rfl ?_
      refine WO.val (.bin (.r rfl) (.r rfl) (pb_add (by omega) (by omega))) rfl ?_
      refine WO.val (.asg (.r rfl)) rfl ?_
      refine WO.nil ?_
      refine KQ.seq ?_
      refine WC.seq ?_
      refine WC.region ?_
      refine WO.val (.mv (.r rfl)) rfl ?_
      refine WO.val (.bin (.r rfl) (.r rfl) rfl) rfl ?_
      refine WO.val (.mv (.r rfl)) rfl ?_
      refine WO.gd rfl rfl rfl (fun h => (.mv (.r rfl))) ?_
      refine WO.gd rfl rfl rfl (fun h => (.bin (.g h rfl) (.r rfl) rfl)) ?_
      refine WO.val (.or rfl rfl) rfl ?_
      refine WO.nil ?_
      refine KQ.seq ?_
      refine WC.cond rfl (fun c3 => ?_) (fun c3 => ?_)
      · refine WC.seq ?_
        refine WC.region ?_
        refine WO.val (.asg (.r rfl)) rfl ?_
        refine WO.nil ?_
        refine KQ.seq ?_
        refine WC.ret ?_
        exact KQ.blockR (KQ.thenR (KQ.thenR (KQ.blockR (KQ.thenR (KQ.fin rfl (.tmp rfl .nil) (fun w hw => ⟨(), by rw [show good l = false from good_big hi hk c2 c3]; rfl, hw.none⟩))))))
      · refine WC.skip ?_
        refine KQ.blockN (KQ.seq ?_)
        refine WC.region ?_
        refine WO.val (.bin (.r rfl) (.r rfl) (pb_inc (by omega))) rfl ?_
        refine WO.val (.mv (.r rfl)) rfl ?_
        refine WO.nil ?_
        refine KQ.again (⟨(k + 1, a + ((l.getD k p0).keep + (l.getD k p0).drop), b + ((l.getD k p0).keep + ((l.getD k p0).put.length : Int))), good_on hi hk c2 c3, by simp only [Bool.or_eq_false_iff, decide_eq_false_iff_not] at c3; dsimp only; omega⟩) (by dsimp only; omega) (by exact ⟨rfl, rfl, rfl, rfl, rfl, rfl, trivial⟩) (fun w hw => hw.none)
  · refine WC.exit ?_
    refine KQ.thenX (KQ.thenX (KQ.blockX (KQ.seq ?_)))
    refine WC.seq ?_
    refine WC.region ?_
    refine WO.val (.asg (.r rfl)) rfl ?_
    refine WO.nil ?_
    refine KQ.seq ?_
    refine WC.ret ?_
    exact KQ.fin rfl (.tmp rfl .nil) (fun w hw => ⟨(), by rw [show good l = true from good_done hi (ge_of_dec c1)]; rfl, hw.none⟩)
end Go.Proofs.YtfnaplhjkapghaaDoor
