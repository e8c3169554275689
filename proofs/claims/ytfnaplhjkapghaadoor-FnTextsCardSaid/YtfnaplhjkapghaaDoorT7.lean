/- A part of the proofs of this seat: contracts of the functions that its statements reach. -/
import Derived.Test.YtfnaplhjkapghaaDoorT6
import Derived.Test.YtfnaplhjkapghaaDoorProg
set_option linter.unusedVariables false
set_option linter.unusedSimpArgs false
set_option maxRecDepth 4000
namespace Go.Proofs.YtfnaplhjkapghaaDoor
open Go Go.RowKit Go.Proofs.YtfnaplhjkapghaaDoor.Sp
theorem one_5 : One Tryd.prog 5 := .of (by kernel_rfl)
theorem con_81 : Program.concrete Tryd.prog 81 = true := by kernel_rfl
theorem ent_70 : Ent Tryd.prog 70 := ent_of Tryd.prog Tryd.func70 rfl rfl
theorem ent_71 : Ent Tryd.prog 71 := ent_of Tryd.prog Tryd.func71 rfl rfl

theorem bytAt {E : Env} {Γ : List Asn} {w : World} {g : Nat} {s : List UInt8} (h : Sat E w (Byt g s :: Γ)) {k : Nat} (hk : k < s.length) : w.cell? ⟨g, k * 1, none⟩ = some (.int .u8 (s.getD k 0).toNat) := by
  have h1 := h.byt hk
  have e : s.getD k 0 = s[k] := by simp [List.getD, List.getElem?_eq_getElem hk]
  rw [e, Nat.mul_one]; exact h1
def lowN (n : Nat) : Nat := n ||| 32
theorem or_all : ∀ n : Nat, n < 256 → (IntKind.u8.wrap (BitVec.ofInt 8 (n : Int) ||| BitVec.ofInt 8 32).toNat = ((lowN n : Nat) : Int) ∧ lowN n ≤ 255) := by decide +kernel
theorem pb_or32 (b : UInt8) : pbin .or (.int .u8 (b.toNat : Int)) (.int .u8 32) = some (.int .u8 ((lowN b.toNat : Nat) : Int)) := by
  have h := (or_all b.toNat b.toNat_lt).1
  show some (Value.int .u8 (IntKind.u8.wrap (BitVec.ofInt 8 (b.toNat : Int) ||| BitVec.ofInt 8 32).toNat)) = _
  rw [h]
theorem pb_add8 {a b : Int} (h0 : 0 ≤ a + b) (h1 : a + b ≤ 255) : pbin .add (.int .u8 a) (.int .u8 b) = some (.int .u8 (a + b)) := by
  show some (Value.int .u8 (IntKind.u8.wrap (a + b))) = _
  rw [u8_in h0 h1]
theorem u64_in {n : Int} (h0 : 0 ≤ n) (h1 : n ≤ 18446744073709551615) : IntKind.u64.wrap n = n := by rw [IntKind.wrap_u64]; omega
theorem pbu_add {a b : Int} (h0 : 0 ≤ a + b) (h1 : a + b ≤ 18446744073709551615) : pbin .add (.int .u64 a) (.int .u64 b) = some (.int .u64 (a + b)) := by
  show some (Value.int .u64 (IntKind.u64.wrap (a + b))) = _
  rw [u64_in h0 h1]
theorem pbu_mul {a b : Int} (h0 : 0 ≤ a * b) (h1 : a * b ≤ 18446744073709551615) : pbin .mul (.int .u64 a) (.int .u64 b) = some (.int .u64 (a * b)) := by
  show some (Value.int .u64 (IntKind.u64.wrap (a * b))) = _
  rw [u64_in h0 h1]
theorem cvu64 {a : Int} (h0 : 0 ≤ a) (h1 : a ≤ 18446744073709551615) : Value.int .u64 (IntKind.u64.wrap a) = .int .u64 a := by rw [u64_in h0 h1]
def dN (b : UInt8) : Int := if (decide ((48 : Int) ≤ b.toNat) && decide ((b.toNat : Int) ≤ 57)) = true then b.toNat - 48 else if (decide ((97 : Int) ≤ (lowN b.toNat : Nat)) && decide (((lowN b.toNat : Nat) : Int) ≤ 122)) = true then (lowN b.toNat : Nat) - 97 + 10 else 255
def hexS : List UInt8 → Int → Option Int
  | [], n => some n
  | b :: r, n => if dN b ≥ 16 then none else hexS r (n * 16 + dN b)
def errV (b : Bool) : Value := bif b then .nilIface else .iface 81 (.int .i64 2)
def puV (o : Option Int) : Value := .tuple #[.int .u64 (o.getD 0), errV o.isSome]
theorem hs_bad {s : List UInt8} {k : Nat} {n : Int} (hi : hexS s 0 = hexS (s.drop k) n) (hk : k < s.length) (h : dN (s.getD k 0) ≥ 16) : hexS s 0 = none := by rw [hi, drop_gD hk, hexS, if_pos h]
theorem hs_on {s : List UInt8} {k : Nat} {n : Int} (hi : hexS s 0 = hexS (s.drop k) n) (hk : k < s.length) (h : ¬ dN (s.getD k 0) ≥ 16) : hexS s 0 = hexS (s.drop (k + 1)) (n * 16 + dN (s.getD k 0)) := by rw [hi, drop_gD hk, hexS, if_neg h]
theorem hs_done {s : List UInt8} {k : Nat} {n : Int} (hi : hexS s 0 = hexS (s.drop k) n) (hk : s.length ≤ k) : hexS s 0 = some n := by rw [hi, List.drop_of_length_le hk]; rfl
theorem dN_a {b : UInt8} (c : (decide ((48 : Int) ≤ b.toNat) && decide ((b.toNat : Int) ≤ 57)) = true) : dN b = b.toNat - 48 := by rw [dN, if_pos c]
theorem dN_b {b : UInt8} (c : (decide ((48 : Int) ≤ b.toNat) && decide ((b.toNat : Int) ≤ 57)) = false) (c2 : (decide ((97 : Int) ≤ (lowN b.toNat : Nat)) && decide (((lowN b.toNat : Nat) : Int) ≤ 122)) = true) : dN b = (lowN b.toNat : Nat) - 97 + 10 := by rw [dN, if_neg (by rw [c]; decide), if_pos c2]
theorem dN_c {b : UInt8} (c : (decide ((48 : Int) ≤ b.toNat) && decide ((b.toNat : Int) ≤ 57)) = false) (c2 : (decide ((97 : Int) ≤ (lowN b.toNat : Nat)) && decide (((lowN b.toNat : Nat) : Int) ≤ 122)) = false) : dN b ≥ 16 := by rw [dN, if_neg (by rw [c]; decide), if_neg (by rw [c2]; decide)]; decide

/-! internal/strconv.lower -/
theorem lowC (b : UInt8) (w : World) : CV Tryd.prog 70 [.int .u8 b.toNat] w (.int .u8 ((lowN b.toNat : Nat) : Int)) := by
  refine CV.of ?_
  refine enter Tryd.func70 rfl rfl rfl (Sat.start w) ?_
  simp only [mkL]
  refine WC.seq ?_
  refine WC.region ?_
  refine WO.val (.asg (.r rfl)) rfl ?_
  refine WO.nil ?_
  refine KQ.seq ?_
  refine WC.seq ?_
  refine WC.region ?_
  refine WO.val (.mv (.r rfl)) rfl ?_
  refine WO.val (.bin (.r rfl) (.r rfl) (pb_or32 b)) rfl ?_
  refine WO.val (.asg (.r rfl)) rfl ?_
  refine WO.nil ?_
  refine KQ.seq ?_
  refine WC.ret ?_
  exact KQ.fin rfl (.tmp rfl .nil) (fun w hw => ⟨(), rfl, hw⟩)
/-! internal/strconv.ParseUint -/
theorem pu16 (s : List UInt8) (hs : s.length = 2) (w : World) : CV Tryd.prog 51 [str s, .int .i64 16, .int .i64 8] w (puV (hexS s 0)) := by
  refine CV.of ?_
  refine enter Tryd.func51 rfl rfl rfl (Sat.start w) ?_
  simp only [mkL]
  refine WC.seq ?_
  refine WC.region ?_
  refine WO.val (.asg (.r rfl)) rfl ?_
  refine WO.val (.asg (.r rfl)) rfl ?_
  refine WO.nil ?_
  refine KQ.seq ?_
  refine WC.seq ?_
  refine WC.seq ?_
  refine WC.region ?_
  refine WO.val (.mv (.r rfl)) rfl ?_
  refine WO.val (.eqS (.r rfl) (.r rfl)) rfl ?_
  refine WO.nil ?_
  refine KQ.seq ?_
  refine WC.cond rfl (fun c1 => ?_) (fun c1 => ?_)
  · exact absurd c1 (by rintro h; simp at h; rw [h] at hs; cases hs)
  · refine WC.skip ?_
    refine KQ.seq ?_
    refine WC.seq ?_
    refine WC.region ?_
    refine WO.val (.mv (.r rfl)) rfl ?_
    refine WO.val (.bin (.r rfl) (.r rfl) rfl) rfl ?_
    refine WO.val (.asg (.r rfl)) rfl ?_
    refine WO.nil ?_
    refine KQ.seq ?_
    refine WC.seq ?_
    refine WC.region ?_
    refine WO.val (.mv (.r rfl)) rfl ?_
    refine WO.val (.asg (.r rfl)) rfl ?_
    refine WO.nil ?_
    refine KQ.seq ?_
    refine WC.seq ?_
    refine WC.block ?_
    refine WC.seq ?_
    refine WC.region ?_
    refine WO.val (.mv (.r rfl)) rfl ?_
    refine WO.val (.bin (.r rfl) (.r rfl) rfl) rfl ?_
    refine WO.val (.mv (.r rfl)) rfl ?_
    refine WO.gd rfl rfl rfl (fun h => (.mv (.r rfl))) ?_
    refine WO.gd rfl rfl rfl (fun h => (.bin (.g h rfl) (.r rfl) rfl)) ?_
    refine WO.val (.and rfl rfl) rfl ?_
    refine WO.val (.asg (.r rfl)) rfl ?_
    refine WO.nil ?_
    refine KQ.seq ?_
    refine WC.cond rfl (fun c2 => ?_) (fun c2 => ?_)
    · refine WC.skip ?_
      refine KQ.blockN (KQ.seq ?_)
      refine WC.seq ?_
      refine WC.seq ?_
      refine WC.region ?_
      refine WO.val (.mv (.r rfl)) rfl ?_
      refine WO.val (.bin (.r rfl) (.r rfl) rfl) rfl ?_
      refine WO.nil ?_
      refine KQ.seq ?_
      refine WC.cond rfl (fun c3 => ?_) (fun c3 => ?_)
      · exact absurd c3 (by decide)
      · refine WC.seq ?_
        refine WC.region ?_
        refine WO.val (.mv (.r rfl)) rfl ?_
        refine WO.val (.bin (.r rfl) (.r rfl) rfl) rfl ?_
        refine WO.val (.mv (.r rfl)) rfl ?_
        refine WO.gd rfl rfl rfl (fun h => (.mv (.r rfl))) ?_
        refine WO.gd rfl rfl rfl (fun h => (.bin (.g h rfl) (.r rfl) rfl)) ?_
        refine WO.val (.or rfl rfl) rfl ?_
        refine WO.nil ?_
        refine KQ.seq ?_
        refine WC.cond rfl (fun c4 => ?_) (fun c4 => ?_)
        · exact absurd c4 (by decide)
        · refine WC.skip ?_
          refine KQ.seq ?_
          refine WC.seq ?_
          refine WC.region ?_
          refine WO.val (.asg (.r rfl)) rfl ?_
          refine WO.nil ?_
          refine KQ.seq ?_
          refine WC.seq ?_
          refine WC.seq ?_
          refine WC.region ?_
          refine WO.val (.mv (.r rfl)) rfl ?_
          refine WO.nil ?_
          refine KQ.seq ?_
          refine WC.block ?_
          refine WC.seq ?_
          refine WC.region ?_
          refine WO.val (.bin (.r rfl) (.r rfl) rfl) rfl ?_
          refine WO.val (.asg (.r rfl)) rfl ?_
          refine WO.nil ?_
          refine KQ.seq ?_
          refine WC.cond rfl (fun c5 => ?_) (fun c5 => ?_)
          · exact absurd c5 (by decide)
          · refine WC.seq ?_
            refine WC.region ?_
            refine WO.val (.bin (.r rfl) (.r rfl) rfl) rfl ?_
            refine WO.val (.asg (.r rfl)) rfl ?_
            refine WO.nil ?_
            refine KQ.seq ?_
            refine WC.cond rfl (fun c6 => ?_) (fun c6 => ?_)
            · refine WC.region ?_
              refine WO.val (.asg (.r rfl)) rfl ?_
              refine WO.nil ?_
              refine KQ.blockN (KQ.seq ?_)
              refine WC.seq ?_
              refine WC.region ?_
              refine WO.val (.mv (.r rfl)) rfl ?_
              refine WO.val (.cvi Tryd.underlying3 Tryd.underlying71 (.r rfl) (show _ = Value.int .u64 8 from rfl)) rfl ?_
              refine WO.val (.bin (.r rfl) (.r rfl) (show _ = some (Value.int .u64 256) from rfl)) rfl ?_
              refine WO.val (.bin (.r rfl) (.r rfl) (show _ = some (Value.int .u64 255) from rfl)) rfl ?_
              refine WO.val (.asg (.r rfl)) rfl ?_
              refine WO.nil ?_
              refine KQ.seq ?_
              refine WC.seq ?_
              refine WC.region ?_
              refine WO.val (.asg (.r rfl)) rfl ?_
              refine WO.nil ?_
              refine KQ.seq ?_
              refine WC.seq ?_
              refine WC.region ?_
              refine WO.val (.asg (.r rfl)) rfl ?_
              refine WO.nil ?_
              refine KQ.seq ?_
              refine WC.seq ?_
              refine WC.seq ?_
              refine WC.region ?_
              refine WO.val (.mv (.r rfl)) rfl ?_
              refine WO.cvB Tryd.underlying9 Tryd.underlying28 Tryd.underlying5 rfl rfl fun g cc => ?_
              refine WO.val (.len sli_28 (.r rfl)) rfl ?_
              refine WO.val (.mv (.r rfl)) rfl ?_
              refine WO.nil ?_
              refine KQ.seq ?_
              refine WC.block ?_
              refine WC.loop (σ := {p : Nat × Int // hexS s 0 = hexS (s.drop p.1) p.2 ∧ 0 ≤ p.2 ∧ (p.1 = 0 → p.2 = 0) ∧ (p.1 = 1 → p.2 ≤ 15) ∧ p.2 ≤ 255}) (fun q => [(1, .int .i64 16), (8, .bool ((16 : Int) == 0)), (9, str s), (10, .int .u64 1152921504606846976), (11, .int .u64 255), (12, .bool false), (13, .int .u64 q.1.2), (99, .slice (some ⟨g, 0, none⟩) s.length cc), (100, .int .i64 (s.length : Nat)), (101, .int .i64 (q.1.1 : Nat))]) (fun q => [Byt g s]) (fun q => s.length - q.1.1) (⟨(0, 0), by simp⟩) (by exact ⟨rfl, rfl, rfl, rfl, rfl, rfl, rfl, rfl, rfl, rfl, trivial⟩) (fun w hw => hw) ?_
              rintro ⟨⟨k, n⟩, hi, hn0, hn1, hn2, hn4⟩
              dsimp only at hi hn0 hn1 hn2 hn4
              dsimp only
              refine WC.seq ?_
              refine WC.region ?_
              refine WO.val (.bin (.r rfl) (.r rfl) rfl) rfl ?_
              refine WO.nil ?_
              refine KQ.seq ?_
              refine WC.seq ?_
              refine WC.cond rfl (fun c7 => ?_) (fun c7 => ?_)
              · have hk := lt_of_dec c7
                have hb := (s.getD k 0).toNat_lt
                have hlw := (or_all _ hb).2
                refine WC.skip ?_
                refine KQ.seq ?_
                refine WC.seq ?_
                refine WC.block ?_
                refine WC.seq ?_
                refine WC.region ?_
                refine WO.val (.ixg sli_28 (.r rfl) (.r rfl) hk) rfl ?_
                refine WO.val (.ld one_5 (.r rfl) (fun w hw => bytAt hw hk)) rfl ?_
                refine WO.val (.asg (.r rfl)) rfl ?_
                refine WO.nil ?_
                refine KQ.seq ?_
                refine WC.seq ?_
                refine WC.region ?_
                refine WO.val (.asg (.r rfl)) rfl ?_
                refine WO.nil ?_
                refine KQ.seq ?_
                refine WC.seq ?_
                refine WC.block ?_
                refine WC.seq ?_
                refine WC.region ?_
                refine WO.val (.mv (.r rfl)) rfl ?_
                refine WO.val (.bin (.r rfl) (.r rfl) rfl) rfl ?_
                refine WO.val (.mv (.r rfl)) rfl ?_
                refine WO.gd rfl rfl rfl (fun h => (.mv (.r rfl))) ?_
                refine WO.val (.and rfl rfl) rfl ?_
                refine WO.val (.asg (.r rfl)) rfl ?_
                refine WO.nil ?_
                refine KQ.seq ?_
                refine WC.cond rfl (fun c8 => ?_) (fun c8 => ?_)
                · exact absurd c8 (by simp)
                · refine WC.seq ?_
                  refine WC.region ?_
                  refine WO.val (.mv (.r rfl)) rfl ?_
                  refine WO.val (.bin (.r rfl) (.r rfl) rfl) rfl ?_
                  refine WO.val (.mv (.r rfl)) rfl ?_
                  refine WO.gd rfl rfl rfl (fun h => (.mv (.r rfl))) ?_
                  refine WO.gd rfl rfl rfl (fun h => (.bin (.g h rfl) (.r rfl) rfl)) ?_
                  refine WO.val (.and rfl rfl) rfl ?_
                  refine WO.val (.asg (.r rfl)) rfl ?_
                  refine WO.nil ?_
                  refine KQ.seq ?_
                  refine WC.cond rfl (fun c9 => ?_) (fun c9 => ?_)
                  · have hd := dN_a c9
                    simp only [Bool.and_eq_true, decide_eq_true_eq] at c9
                    refine WC.region ?_
                    refine WO.val (.mv (.r rfl)) rfl ?_
                    refine WO.val (.bin (.r rfl) (.r rfl) (pb_sub8 (by omega) (by omega))) rfl ?_
                    refine WO.val (.asg (.r rfl)) rfl ?_
                    refine WO.nil ?_
                    refine KQ.blockN (KQ.seq ?_)
                    refine WC.seq ?_
                    refine WC.seq ?_
                    refine WC.region ?_
                    refine WO.val (.mv (.r rfl)) rfl ?_
                    refine WO.val (.mv (.r rfl)) rfl ?_
                    refine WO.val (.cvi Tryd.underlying3 Tryd.underlying5 (.r rfl) (show _ = Value.int .u8 16 from rfl)) rfl ?_
                    refine WO.val (.bin (.r rfl) (.r rfl) rfl) rfl ?_
                    refine WO.nil ?_
                    refine KQ.seq ?_
                    refine WC.cond rfl (fun c10 => ?_) (fun c10 => ?_)
                    · refine WC.seq ?_
                      refine WC.region ?_
                      refine WO.val (.mki con_81 (.r rfl)) rfl ?_
                      refine WO.val (.asg (.r rfl)) rfl ?_
                      refine WO.val (.asg (.r rfl)) rfl ?_
                      refine WO.nil ?_
                      refine KQ.seq ?_
                      refine WC.ret ?_
                      exact KQ.thenR (KQ.blockR (KQ.thenR (KQ.thenR (KQ.blockR (KQ.thenR (KQ.fin rfl (.tmp rfl (.tmp rfl .nil)) (fun w hw => ⟨(), by rw [show hexS s 0 = none from hs_bad hi hk (by rw [hd]; exact of_decide_eq_true c10)]; rfl, hw.none⟩)))))))
                    · have h10 := of_decide_eq_false c10
                      have hn3 : k = 0 ∨ k = 1 := by omega
                      refine WC.skip ?_
                      refine KQ.seq ?_
                      refine WC.seq ?_
                      refine WC.seq ?_
                      refine WC.region ?_
                      refine WO.val (.mv (.r rfl)) rfl ?_
                      refine WO.val (.mv (.r rfl)) rfl ?_
                      refine WO.val (.bin (.r rfl) (.r rfl) rfl) rfl ?_
                      refine WO.nil ?_
                      refine KQ.seq ?_
                      refine WC.cond rfl (fun c11 => ?_) (fun c11 => ?_)
                      · exact absurd c11 (by simp [-List.getD_eq_getElem?_getD]; omega)
                      · refine WC.skip ?_
                        refine KQ.seq ?_
                        refine WC.seq ?_
                        refine WC.region ?_
                        refine WO.val (.mv (.r rfl)) rfl ?_
                        refine WO.val (.mv (.r rfl)) rfl ?_
                        refine WO.val (.cvi Tryd.underlying3 Tryd.underlying53 (.r rfl) (show _ = Value.int .u64 16 from rfl)) rfl ?_
                        refine WO.val (.bin (.r rfl) (.r rfl) (pbu_mul (by omega) (by omega))) rfl ?_
                        refine WO.val (.asg (.r rfl)) rfl ?_
                        refine WO.nil ?_
                        refine KQ.seq ?_
                        refine WC.seq ?_
                        refine WC.region ?_
                        refine WO.val (.mv (.r rfl)) rfl ?_
                        refine WO.val (.mv (.r rfl)) rfl ?_
                        refine WO.val (.cvi Tryd.underlying5 Tryd.underlying53 (.r rfl) (cvu64 (by omega) (by omega))) rfl ?_
                        refine WO.val (.bin (.r rfl) (.r rfl) (pbu_add (by omega) (by omega))) rfl ?_
                        refine WO.val (.asg (.r rfl)) rfl ?_
                        refine WO.nil ?_
                        refine KQ.seq ?_
                        refine WC.seq ?_
                        refine WC.seq ?_
                        refine WC.region ?_
                        refine WO.val (.mv (.r rfl)) rfl ?_
                        refine WO.val (.mv (.r rfl)) rfl ?_
                        refine WO.val (.bin (.r rfl) (.r rfl) rfl) rfl ?_
                        refine WO.val (.mv (.r rfl)) rfl ?_
                        refine WO.gd rfl rfl rfl (fun h => (.mv (.r rfl))) ?_
                        refine WO.gd rfl rfl rfl (fun h => (.mv (.r rfl))) ?_
                        refine WO.gd rfl rfl rfl (fun h => (.bin (.g h rfl) (.g h rfl) rfl)) ?_
                        refine WO.val (.or rfl rfl) rfl ?_
                        refine WO.nil ?_
                        refine KQ.seq ?_
                        refine WC.cond rfl (fun c12 => ?_) (fun c12 => ?_)
                        · exact absurd c12 (by simp [-List.getD_eq_getElem?_getD]; omega)
                        · refine WC.skip ?_
                          refine KQ.seq ?_
                          refine WC.region ?_
                          refine WO.val (.mv (.r rfl)) rfl ?_
                          refine WO.val (.asg (.r rfl)) rfl ?_
                          refine WO.nil ?_
                          refine KQ.blockN (KQ.seq ?_)
                          refine WC.region ?_
                          refine WO.val (.bin (.r rfl) (.r rfl) (pb_inc (by omega))) rfl ?_
                          refine WO.val (.mv (.r rfl)) rfl ?_
                          refine WO.nil ?_
                          refine KQ.again (⟨(k + 1, n * 16 + ((s.getD k 0).toNat - 48)), by dsimp only; rw [← hd]; exact hs_on hi hk (by rw [hd]; exact h10), by dsimp only; omega, by dsimp only; omega, by dsimp only; omega, by dsimp only; omega⟩) (by dsimp only; omega) (by exact ⟨rfl, rfl, rfl, rfl, rfl, rfl, rfl, rfl, rfl, rfl, trivial⟩) (fun w hw => hw)
                  · refine WC.seq ?_
                    refine WC.region ?_
                    refine WO.val (.mv (.r rfl)) rfl ?_
                    refine WO.callS rfl ent_70 rfl (fun w hw => lowC (s.getD k 0) w) ?_
                    refine WO.val (.bin (.r rfl) (.r rfl) rfl) rfl ?_
                    refine WO.val (.mv (.r rfl)) rfl ?_
                    refine WO.gd rfl rfl rfl (fun h => (.mv (.r rfl))) ?_
                    refine WO.gdC rfl rfl rfl ent_70 (fun h => ⟨.cons (.g h rfl) (.nil), fun w hw => lowC (s.getD k 0) w⟩) ?_
                    refine WO.gd rfl rfl rfl (fun h => (.bin (.g h rfl) (.r rfl) rfl)) ?_
                    refine WO.val (.and rfl rfl) rfl ?_
                    refine WO.val (.asg (.r rfl)) rfl ?_
                    refine WO.nil ?_
                    refine KQ.seq ?_
                    refine WC.cond rfl (fun c13 => ?_) (fun c13 => ?_)
                    · have hd := dN_b c9 c13
                      simp only [Bool.and_eq_true, decide_eq_true_eq] at c13
                      refine WC.region ?_
                      refine WO.val (.mv (.r rfl)) rfl ?_
                      refine WO.callS rfl ent_70 rfl (fun w hw => lowC (s.getD k 0) w) ?_
                      refine WO.val (.bin (.r rfl) (.r rfl) (pb_sub8 (by omega) (by omega))) rfl ?_
                      refine WO.val (.bin (.r rfl) (.r rfl) (pb_add8 (by omega) (by omega))) rfl ?_
                      refine WO.val (.asg (.r rfl)) rfl ?_
                      refine WO.nil ?_
                      refine KQ.blockN (KQ.seq ?_)
                      refine WC.seq ?_
                      refine WC.seq ?_
                      refine WC.region ?_
                      refine WO.val (.mv (.r rfl)) rfl ?_
                      refine WO.val (.mv (.r rfl)) rfl ?_
                      refine WO.val (.cvi Tryd.underlying3 Tryd.underlying5 (.r rfl) (show _ = Value.int .u8 16 from rfl)) rfl ?_
                      refine WO.val (.bin (.r rfl) (.r rfl) rfl) rfl ?_
                      refine WO.nil ?_
                      refine KQ.seq ?_
                      refine WC.cond rfl (fun c14 => ?_) (fun c14 => ?_)
                      · refine WC.seq ?_
                        refine WC.region ?_
                        refine WO.val (.mki con_81 (.r rfl)) rfl ?_
                        refine WO.val (.asg (.r rfl)) rfl ?_
                        refine WO.val (.asg (.r rfl)) rfl ?_
                        refine WO.nil ?_
                        refine KQ.seq ?_
                        refine WC.ret ?_
                        exact KQ.thenR (KQ.blockR (KQ.thenR (KQ.thenR (KQ.blockR (KQ.thenR (KQ.fin rfl (.tmp rfl (.tmp rfl .nil)) (fun w hw => ⟨(), by rw [show hexS s 0 = none from hs_bad hi hk (by rw [hd]; exact of_decide_eq_true c14)]; rfl, hw.none⟩)))))))
                      · have h10 := of_decide_eq_false c14
                        have hn3 : k = 0 ∨ k = 1 := by omega
                        refine WC.skip ?_
                        refine KQ.seq ?_
                        refine WC.seq ?_
                        refine WC.seq ?_
                        refine WC.region ?_
                        refine WO.val (.mv (.r rfl)) rfl ?_
                        refine WO.val (.mv (.r rfl)) rfl ?_
                        refine WO.val (.bin (.r rfl) (.r rfl) rfl) rfl ?_
                        refine WO.nil ?_
                        refine KQ.seq ?_
                        refine WC.cond rfl (fun c15 => ?_) (fun c15 => ?_)
                        · exact absurd c15 (by simp [-List.getD_eq_getElem?_getD]; omega)
                        · refine WC.skip ?_
                          refine KQ.seq ?_
                          refine WC.seq ?_
                          refine WC.region ?_
                          refine WO.val (.mv (.r rfl)) rfl ?_
                          refine WO.val (.mv (.r rfl)) rfl ?_
                          refine WO.val (.cvi Tryd.underlying3 Tryd.underlying53 (.r rfl) (show _ = Value.int .u64 16 from rfl)) rfl ?_
                          refine WO.val (.bin (.r rfl) (.r rfl) (pbu_mul (by omega) (by omega))) rfl ?_
                          refine WO.val (.asg (.r rfl)) rfl ?_
                          refine WO.nil ?_
                          refine KQ.seq ?_
                          refine WC.seq ?_
                          refine WC.region ?_
                          refine WO.val (.mv (.r rfl)) rfl ?_
                          refine WO.val (.mv (.r rfl)) rfl ?_
                          refine WO.val (.cvi Tryd.underlying5 Tryd.underlying53 (.r rfl) (cvu64 (by omega) (by omega))) rfl ?_
                          refine WO.val (.bin (.r rfl) (.r rfl) (pbu_add (by omega) (by omega))) rfl ?_
                          refine WO.val (.asg (.r rfl)) rfl ?_
                          refine WO.nil ?_
                          refine KQ.seq ?_
                          refine WC.seq ?_
                          refine WC.seq ?_
                          refine WC.region ?_
                          refine WO.val (.mv (.r rfl)) rfl ?_
                          refine WO.val (.mv (.r rfl)) rfl ?_
                          refine WO.val (.bin (.r rfl) (.r rfl) rfl) rfl ?_
                          refine WO.val (.mv (.r rfl)) rfl ?_
                          refine WO.gd rfl rfl rfl (fun h => (.mv (.r rfl))) ?_
                          refine WO.gd rfl rfl rfl (fun h => (.mv (.r rfl))) ?_
                          refine WO.gd rfl rfl rfl (fun h => (.bin (.g h rfl) (.g h rfl) rfl)) ?_
                          refine WO.val (.or rfl rfl) rfl ?_
                          refine WO.nil ?_
                          refine KQ.seq ?_
                          refine WC.cond rfl (fun c16 => ?_) (fun c16 => ?_)
                          · exact absurd c16 (by simp [-List.getD_eq_getElem?_getD]; omega)
                          · refine WC.skip ?_
                            refine KQ.seq ?_
                            refine WC.region ?_
                            refine WO.val (.mv (.r rfl)) rfl ?_
                            refine WO.val (.asg (.r rfl)) rfl ?_
                            refine WO.nil ?_
                            refine KQ.blockN (KQ.seq ?_)
                            refine WC.region ?_
                            refine WO.val (.bin (.r rfl) (.r rfl) (pb_inc (by omega))) rfl ?_
                            refine WO.val (.mv (.r rfl)) rfl ?_
                            refine WO.nil ?_
                            refine KQ.again (⟨(k + 1, n * 16 + ((lowN (s.getD k 0).toNat : Nat) - 97 + 10)), by dsimp only; rw [← hd]; exact hs_on hi hk (by rw [hd]; exact h10), by dsimp only; omega, by dsimp only; omega, by dsimp only; omega, by dsimp only; omega⟩) (by dsimp only; omega) (by exact ⟨rfl, rfl, rfl, rfl, rfl, rfl, rfl, rfl, rfl, rfl, trivial⟩) (fun w hw => hw)
                    · refine WC.seq ?_
                      refine WC.region ?_
                      refine WO.val (.mki con_81 (.r rfl)) rfl ?_
                      refine WO.val (.asg (.r rfl)) rfl ?_
                      refine WO.val (.asg (.r rfl)) rfl ?_
                      refine WO.nil ?_
                      refine KQ.seq ?_
                      refine WC.ret ?_
                      exact KQ.blockR (KQ.thenR (KQ.blockR (KQ.thenR (KQ.thenR (KQ.blockR (KQ.thenR (KQ.fin rfl (.tmp rfl (.tmp rfl .nil)) (fun w hw => ⟨(), by rw [show hexS s 0 = none from hs_bad hi hk (dN_c c9 c13)]; rfl, hw.none⟩))))))))
              · refine WC.exit ?_
                refine KQ.thenX (KQ.thenX (KQ.blockX (KQ.seq ?_)))
                refine WC.seq ?_
                refine WC.seq ?_
                refine WC.region ?_
                refine WO.val (.mv (.r rfl)) rfl ?_
                refine WO.val (.mv (.r rfl)) rfl ?_
                refine WO.gd rfl rfl rfl (fun h => (.mv (.r rfl))) ?_
                refine WO.gdC (v := .bool true) (vs := []) rfl rfl rfl ent_71 (fun h => absurd h (by decide)) ?_
                refine WO.gd rfl rfl rfl (fun h => (.nt (.g h rfl))) ?_
                refine WO.val (.and rfl rfl) rfl ?_
                refine WO.nil ?_
                refine KQ.seq ?_
                refine WC.cond rfl (fun c17 => ?_) (fun c17 => ?_)
                · exact absurd c17 (by simp)
                · refine WC.skip ?_
                  refine KQ.seq ?_
                  refine WC.seq ?_
                  refine WC.region ?_
                  refine WO.val (.mv (.r rfl)) rfl ?_
                  refine WO.val (.asg (.r rfl)) rfl ?_
                  refine WO.val (.asg (.r rfl)) rfl ?_
                  refine WO.nil ?_
                  refine KQ.seq ?_
                  refine WC.ret ?_
                  exact KQ.fin rfl (.tmp rfl (.tmp rfl .nil)) (fun w hw => ⟨(), by rw [show hexS s 0 = some n from hs_done hi (ge_of_dec c7)]; rfl, hw.none⟩)
            · exact absurd c6 (by decide)
    · exact absurd c2 (by decide)
end Go.Proofs.YtfnaplhjkapghaaDoor
