/- A part of the proofs of this seat: contracts of the functions that its statements reach. -/
import Derived.Test.YtfnaplhjkapghaaDoorT15
import Derived.Test.YtfnaplhjkapghaaDoorProg
set_option linter.unusedVariables false
set_option linter.unusedSimpArgs false
set_option maxRecDepth 4000
namespace Go.Proofs.YtfnaplhjkapghaaDoor
open Go Go.RowKit Go.Proofs.YtfnaplhjkapghaaDoor.Sp
theorem ent_23 : Ent Tryd.prog 23 := ent_of Tryd.prog Tryd.func23 rfl rfl

def mtx (u : Nat) (out : List UInt8) : List UInt8 := if h : u = 0 then out else mtx (u / 10) (UInt8.ofNat (48 + u % 10) :: out)
termination_by u
decreasing_by omega
theorem mtx_on {u : Nat} (h : 0 < u) (out : List UInt8) : mtx u out = mtx (u / 10) (UInt8.ofNat (48 + u % 10) :: out) := by rw [mtx, dif_neg (by omega)]
theorem mtx_0 (out : List UInt8) : mtx 0 out = out := by rw [mtx, dif_pos rfl]
theorem pb_rem10 {k : Nat} : pbin .rem (.int .i64 (k : Int)) (.int .i64 10) = some (.int .i64 ((k % 10 : Nat) : Int)) := by
  show some (Value.int .i64 ((k : Int).tmod 10)) = _
  rw [Int.tmod_eq_emod_of_nonneg (by omega)]; rfl
theorem pb_quo10 {k : Nat} (h : k ≤ 9223372036854775807) : pbin .quo (.int .i64 (k : Int)) (.int .i64 10) = some (.int .i64 ((k / 10 : Nat) : Int)) := by
  show some (Value.int .i64 (IntKind.i64.wrap ((k : Int).tdiv 10))) = _
  rw [Int.tdiv_eq_ediv_of_nonneg (by omega), wrap_in (by omega) (by omega)]; rfl
theorem cvDig {k : Nat} : Value.int .u8 (IntKind.u8.wrap (48 + ((k % 10 : Nat) : Int))) = vB (UInt8.ofNat (48 + k % 10)) := by
  rw [u8_in (by omega) (by omega)]
  have : (UInt8.ofNat (48 + k % 10)).toNat = 48 + k % 10 := by rw [UInt8.toNat_ofNat']; omega
  unfold vB; rw [this]; congr 1
theorem row_lit {E : Env} {w : World} {Γ : List Asn} {T g : Nat} {b : UInt8} (h : Sat E w (.blk g (.cells [vB b].toArray T (0, 0)) :: Γ)) : Sat E w (Row T 1 (.slice (some ⟨g, 0, none⟩) 1 1) [b].length ([b].map vB) :: Γ) :=
  Sat.rowI (cur := [vB b]) (g := g) (cap := 1) ⟨rfl, Nat.le_refl _, by decide, rfl, rfl⟩ h
def mkL3 (k n : Nat) : List Part := (List.range n).map fun i => ⟨((k + 3 * i : Nat) : Int), ((k + 3 * i + 1 : Nat) : Int), 109 :: mtx (k + 3 * i + 2) []⟩
theorem mkL3_len (k n : Nat) : (mkL3 k n).length = n := by simp [mkL3]
theorem mkL3_at {k n i : Nat} (h : i < n) : (mkL3 k n).getD i p0 = ⟨((k + 3 * i : Nat) : Int), ((k + 3 * i + 1 : Nat) : Int), 109 :: mtx (k + 3 * i + 2) []⟩ := by
  simp [mkL3, List.getD, h]
theorem pb_incC {k : Nat} {n : Int} (hn : n = (k : Int)) (h : k + 1 ≤ 9223372036854775807) : pbin .add (.int .i64 n) (.int .i64 1) = some (.int .i64 ((k + 1 : Nat) : Int)) := by subst hn; exact pb_inc h

/-! laws.markText -/
theorem markTextC (u : Nat) (h0 : 0 < u) (hu : u ≤ 9007199254740992) (w : World) : CV Tryd.prog 23 [.int .i64 (u : Int)] w (str (109 :: mtx u [])) := by
  refine CV.of ?_
  refine enter Tryd.func23 rfl rfl rfl (Sat.start w) ?_
  simp only [mkL]
  refine WC.seq ?_
  refine WC.region ?_
  refine WO.val (.asg (.r rfl)) rfl ?_
  refine WO.nil ?_
  refine KQ.seq ?_
  refine WC.seq ?_
  refine WC.seq ?_
  refine WC.region ?_
  refine WO.val (.mv (.r rfl)) rfl ?_
  refine WO.val (.bin (.r rfl) (.r rfl) rfl) rfl ?_
  refine WO.nil ?_
  refine KQ.seq ?_
  refine WC.cond rfl (fun c1 => ?_) (fun c1 => ?_)
  · exact absurd c1 (by simp; omega)
  · refine WC.skip ?_
    refine KQ.seq ?_
    refine WC.seq ?_
    refine WC.region ?_
    refine WO.val (.asg (.r rfl)) rfl ?_
    refine WO.nil ?_
    refine KQ.seq ?_
    refine WC.seq ?_
    refine WC.block ?_
    refine WC.loop (σ := {p : Nat × List UInt8 // mtx u [] = mtx p.1 p.2 ∧ p.2.length + p.1 ≤ u}) (fun q => [(0, .int .i64 (q.1.1 : Int)), (3, str q.1.2)]) (fun q => []) (fun q => q.1.1) (⟨(u, []), rfl, by simp⟩) (by exact ⟨rfl, rfl, trivial⟩) (fun w hw => hw) ?_
    rintro ⟨⟨k, out⟩, hi, hn⟩
    dsimp only at hi hn
    dsimp only
    refine WC.seq ?_
    refine WC.seq ?_
    refine WC.region ?_
    refine WO.val (.mv (.r rfl)) rfl ?_
    refine WO.val (.bin (.r rfl) (.r rfl) rfl) rfl ?_
    refine WO.nil ?_
    refine KQ.seq ?_
    refine WC.cond rfl (fun c2 => ?_) (fun c2 => ?_)
    · have hk : 0 < k := by simpa using c2
      refine WC.skip ?_
      refine KQ.seq ?_
      refine WC.block ?_
      refine WC.seq ?_
      refine WC.region ?_
      refine WO.val (.mv (.r rfl)) rfl ?_
      refine WO.val (.bin (.r rfl) (.r rfl) pb_rem10) rfl ?_
      refine WO.val (.bin (.r rfl) (.r rfl) (pb_add (by omega) (by omega))) rfl ?_
      refine WO.val (.cvi Tryd.underlying3 Tryd.underlying5 (.r rfl) cvDig) rfl ?_
      refine WO.bs (vs := [vB (UInt8.ofNat (48 + k % 10))]) (c := [vB (UInt8.ofNat (48 + k % 10))]) sli_28 rfl rfl rfl (by omega) (by intro v hv; simp at hv; subst hv; rfl) rfl (by omega) fun g => ?_
      refine WO.val (.cvT (l := [UInt8.ofNat (48 + k % 10)]) Tryd.underlying28 Tryd.underlying5 Tryd.underlying9 (.r rfl) (fun w hw => row_lit hw)) rfl ?_
      refine WO.val (.mv (.r rfl)) rfl ?_
      refine WO.val (.addS (.r rfl) (.r rfl) (by simp; omega)) rfl ?_
      refine WO.val (.asg (.r rfl)) rfl ?_
      refine WO.nil ?_
      refine KQ.seq ?_
      refine WC.region ?_
      refine WO.val (.mv (.r rfl)) rfl ?_
      refine WO.val (.bin (.r rfl) (.r rfl) (pb_quo10 (by omega))) rfl ?_
      refine WO.val (.asg (.r rfl)) rfl ?_
      refine WO.nil ?_
      refine KQ.blockN (KQ.again (⟨(k / 10, UInt8.ofNat (48 + k % 10) :: out), by dsimp only; rw [hi, mtx_on hk], by simp; omega⟩) (by dsimp only; omega) (by exact ⟨rfl, rfl, trivial⟩) (fun w hw => hw.none))
    · have hk : k = 0 := by simp at c2; omega
      refine WC.exit ?_
      refine KQ.thenX (KQ.thenX (KQ.blockX (KQ.seq ?_)))
      refine WC.seq ?_
      refine WC.region ?_
      refine WO.val (.mv (.r rfl)) rfl ?_
      refine WO.val (.addS (.r rfl) (.r rfl) (a := [109]) (by simp; omega)) rfl ?_
      refine WO.val (.asg (.r rfl)) rfl ?_
      refine WO.nil ?_
      refine KQ.seq ?_
      refine WC.ret ?_
      exact KQ.fin rfl (.tmp rfl .nil) (fun w hw => ⟨(), by rw [show mtx u [] = out from by rw [hi, hk, mtx_0]]; rfl, hw⟩)
/-! laws.heldPartS -/
theorem heldC (k n : Nat) (A : Option Addr) (c : Nat) (w : World) (hr : RdL (hp w) rPart A (mkL3 k n)) (h0 : 0 < k) (hn : k + 3 * n ≤ 1099511627776) : CV Tryd.prog 9 [.slice A n c, .int .i64 (k : Int)] w (.int .i64 ((k + 3 * n : Nat) : Int)) := by
  refine CV.of ?_
  refine enter Tryd.func9 rfl rfl rfl (Sat.start w) ?_
  simp only [mkL]
  refine WC.seq ?_
  refine WC.region ?_
  refine WO.val (.asg (.r rfl)) rfl ?_
  refine WO.nil ?_
  refine KQ.seq ?_
  refine WC.seq ?_
  refine WC.seq ?_
  refine WC.region ?_
  refine WO.val (.asg (.r rfl)) rfl ?_
  refine WO.nil ?_
  refine KQ.seq ?_
  refine WC.block ?_
  refine WC.loop (σ := {i : Nat // i ≤ n}) (fun q => [(0, .slice A n c), (1, .int .i64 ((k + 3 * q.1 : Nat) : Int)), (5, .int .i64 (q.1 : Nat))]) (fun q => []) (fun q => n - q.1) (⟨0, Nat.zero_le _⟩) (by exact ⟨rfl, rfl, rfl, trivial⟩) (fun w hw => hw) ?_
  rintro ⟨i, hin⟩
  dsimp only
  refine WC.seq ?_
  refine WC.seq ?_
  refine WC.region ?_
  refine WO.val (.mv (.r rfl)) rfl ?_
  refine WO.val (.mv (.r rfl)) rfl ?_
  refine WO.val (.len sli_22 (.r rfl)) rfl ?_
  refine WO.val (.bin (.r rfl) (.r rfl) rfl) rfl ?_
  refine WO.nil ?_
  refine KQ.seq ?_
  refine WC.cond rfl (fun c1 => ?_) (fun c1 => ?_)
  · have hk := lt_of_dec c1
    obtain ⟨ad, rfl, _⟩ := hr i (by rw [mkL3_len]; exact hk)
    have hcl := rdD hr (show i < (mkL3 k n).length by rw [mkL3_len]; exact hk)
    rw [mkL3_at hk] at hcl
    refine WC.skip ?_
    refine KQ.seq ?_
    refine WC.seq ?_
    refine WC.block ?_
    refine WC.seq ?_
    refine WC.seq ?_
    refine WC.region ?_
    refine WO.val (.mv (.r rfl)) rfl ?_
    refine WO.val (.mv (.r rfl)) rfl ?_
    refine WO.val (.ixn sli_22 (.r rfl) (.r rfl) hk) rfl ?_
    refine WO.val (.fa fld_36_0 (.r rfl)) rfl ?_
    refine WO.val (.ld one_3 (.r rfl) (fun w hw => hw.cell (hcl 0 _ rfl))) rfl ?_
    refine WO.val (.mv (.r rfl)) rfl ?_
    refine WO.val (.bin (.r rfl) (.r rfl) rfl) rfl ?_
    refine WO.nil ?_
    refine KQ.seq ?_
    refine WC.cond rfl (fun c2 => ?_) (fun c2 => ?_)
    · exact absurd c2 (by simp)
    · refine WC.skip ?_
      refine KQ.seq ?_
      refine WC.seq ?_
      refine WC.region ?_
      refine WO.val (.mv (.r rfl)) rfl ?_
      refine WO.val (.bin (.r rfl) (.r rfl) (pb_inc (by omega))) rfl ?_
      refine WO.val (.asg (.r rfl)) rfl ?_
      refine WO.nil ?_
      refine KQ.seq ?_
      refine WC.seq ?_
      refine WC.seq ?_
      refine WC.region ?_
      refine WO.val (.mv (.r rfl)) rfl ?_
      refine WO.val (.mv (.r rfl)) rfl ?_
      refine WO.val (.ixn sli_22 (.r rfl) (.r rfl) hk) rfl ?_
      refine WO.val (.fa fld_36_1 (.r rfl)) rfl ?_
      refine WO.val (.ld one_3 (.r rfl) (fun w hw => hw.cell (hcl 1 _ rfl))) rfl ?_
      refine WO.val (.mv (.r rfl)) rfl ?_
      refine WO.val (.bin (.r rfl) (.r rfl) rfl) rfl ?_
      refine WO.nil ?_
      refine KQ.seq ?_
      refine WC.cond rfl (fun c3 => ?_) (fun c3 => ?_)
      · exact absurd c3 (by simp)
      · refine WC.skip ?_
        refine KQ.seq ?_
        refine WC.seq ?_
        refine WC.region ?_
        refine WO.val (.mv (.r rfl)) rfl ?_
        refine WO.val (.bin (.r rfl) (.r rfl) (pb_inc (by omega))) rfl ?_
        refine WO.val (.asg (.r rfl)) rfl ?_
        refine WO.nil ?_
        refine KQ.seq ?_
        refine WC.seq ?_
        refine WC.seq ?_
        refine WC.quiet (by kernel_rfl) (by kernel_rfl) ?_
        refine WQ.val (.mv (.r rfl)) rfl ?_
        refine WQ.val (.mv (.r rfl)) rfl ?_
        refine WQ.val (.ixn sli_22 (.r rfl) (.r rfl) hk) rfl ?_
        refine WQ.val (.fa fld_36_2 (.r rfl)) rfl ?_
        refine WQ.val (.ld one_9 (.r rfl) (fun w hw => hw.cell (hcl 2 _ rfl))) rfl ?_
        refine WQ.val (.mv (.r rfl)) rfl ?_
        refine WQ.callV rfl ent_23 rfl (fun w hw => markTextC (k + 3 * i + 2) (by omega) (by omega) w) ?_
        refine WQ.val (.neS (.r rfl) (.r rfl)) rfl ?_
        refine WQ.nil ?_
        refine KQ.seq ?_
        refine WC.cond rfl (fun c4 => ?_) (fun c4 => ?_)
        · exact absurd c4 (by simp)
        · refine WC.skip ?_
          refine KQ.seq ?_
          refine WC.region ?_
          refine WO.val (.mv (.r rfl)) rfl ?_
          refine WO.val (.bin (.r rfl) (.r rfl) (pb_inc (by omega))) rfl ?_
          refine WO.val (.asg (.r rfl)) rfl ?_
          refine WO.nil ?_
          refine KQ.blockN (KQ.seq ?_)
          refine WC.region ?_
          refine WO.val (.mv (.r rfl)) rfl ?_
          refine WO.val (.bin (.r rfl) (.r rfl) (pb_inc (by omega))) rfl ?_
          refine WO.val (.asg (.r rfl)) rfl ?_
          refine WO.nil ?_
          refine KQ.again (⟨i + 1, hk⟩) (by dsimp only; omega) (by exact ⟨rfl, rfl, rfl, trivial⟩) (fun w hw => hw)
  · refine WC.exit ?_
    refine KQ.thenX (KQ.thenX (KQ.blockX (KQ.seq ?_)))
    refine WC.seq ?_
    refine WC.region ?_
    refine WO.val (.mv (.r rfl)) rfl ?_
    refine WO.val (.asg (.r rfl)) rfl ?_
    refine WO.nil ?_
    refine KQ.seq ?_
    refine WC.ret ?_
    exact KQ.fin rfl (.tmp rfl .nil) (fun w hw => ⟨(), by have := ge_of_dec c1; rw [show n = i by omega]; rfl, hw⟩)
end Go.Proofs.YtfnaplhjkapghaaDoor
