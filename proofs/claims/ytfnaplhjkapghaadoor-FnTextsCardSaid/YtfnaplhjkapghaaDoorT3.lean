/- A part of the proofs of this seat: contracts of the functions that its statements reach. -/
import Derived.Test.YtfnaplhjkapghaaDoorT2
import Derived.Test.YtfnaplhjkapghaaDoorProg
set_option linter.unusedVariables false
set_option linter.unusedSimpArgs false
set_option maxRecDepth 4000
namespace Go.Proofs.YtfnaplhjkapghaaDoor
open Go Go.RowKit Go.Proofs.YtfnaplhjkapghaaDoor.Sp
theorem sli_33 : Sli Tryd.prog 33 9 1 16 (.string ⟨#[]⟩) := .of Tryd.underlying33 (by kernel_rfl) rfl (by decide)
theorem fld_36_0 : Fld Tryd.prog 36 0 0 := .of (by kernel_rfl)
theorem one_3 : One Tryd.prog 3 := .of (by kernel_rfl)
theorem fld_36_1 : Fld Tryd.prog 36 1 1 := .of (by kernel_rfl)
theorem fld_36_2 : Fld Tryd.prog 36 2 2 := .of (by kernel_rfl)
theorem one_9 : One Tryd.prog 9 := .of (by kernel_rfl)

theorem Sp.Sat.rowSome {E : Env} {Γ : List Asn} {w : World} {v : Value} {T n m : Nat} {cs : List Value} (h : Sat E w (Row T n v m cs :: Γ)) (hm : 0 < m) : ∃ g c, v = .slice (some ⟨g, 0, .none⟩) m c ∧ m ≤ c ∧ c ≤ maxLen := by
  obtain ⟨_, A, c, hv, h1, h2, _⟩ := h.rowHas
  rcases h.row1 with ⟨⟨_, h0, _⟩, _⟩ | ⟨g, cap, cur, hr, hs⟩
  · omega
  · rw [hr.hv] at hv; cases hv; exact ⟨g, _, hr.hv, h1, h2⟩
theorem Sp.Sat.rowAny {E : Env} {Γ : List Asn} {w : World} {v : Value} {T n m : Nat} {cs : List Value} (h : Sat E w (Row T n v m cs :: Γ)) : ∃ A c, v = .slice A m c := by
  obtain ⟨_, A, c, hv, h1, h2, _⟩ := h.rowHas
  exact ⟨A, c, hv⟩
theorem Sp.Sat.rowLd {E : Env} {Γ : List Asn} {α : Type} {w : World} {T n c m : Nat} {A : Option Addr} {enc : α → List Value} {hl : ∀ x, (enc x).length = n} {h1 : ∀ x, ∀ u ∈ enc x, u.oneCell' = true} {xs : List α}
    (R : Rep α) (hR : R = .flat n enc hl h1) (h : Sat E w (Row T n (.slice A m c) m (xs.flatMap enc) :: Γ)) (hm : m = xs.length) : RdL (hp w) R A xs := by
  subst hm; subst hR
  obtain ⟨A', c', hv, _, _, hr⟩ := Sat.row_rd (hl := hl) (h1 := h1) h
  cases hv; exact hr
theorem rd_has {α : Type} {w : World} {n : Nat} {ad : Addr} {enc : α → List Value} {hl : ∀ x, (enc x).length = n} {h1 : ∀ x, ∀ u ∈ enc x, u.oneCell' = true} {xs : List α} (h : RdL (hp w) (.flat n enc hl h1) (some ad) xs) {k : Nat} (hk : k < xs.length) : Has w (ad.add (k * n)) (enc xs[k]) := by
  obtain ⟨ad', h1, cs, rfl, h2⟩ := h k hk
  cases h1
  exact fun j u hu => h2 j u hu
theorem has1 {w : World} {p : Addr} {u : Value} (h : Has w p [u]) : w.cell? p = some u := by
  have := h 0 u rfl
  simpa [Addr.add] using this
def glue (w : List UInt8) : List (List UInt8) → List (List UInt8)
  | [] => [w]
  | x :: xs => (w ++ x) :: xs
def splitOn (b : UInt8) : List UInt8 → List (List UInt8)
  | [] => [[]]
  | x :: r => if ((x.toNat : Int) == (b.toNat : Int)) = true then [] :: splitOn b r else glue [x] (splitOn b r)
theorem splitOn_cons (b x : UInt8) (r : List UInt8) : splitOn b (x :: r) = if ((x.toNat : Int) == (b.toNat : Int)) = true then [] :: splitOn b r else glue [x] (splitOn b r) := rfl
theorem splitOn_ne (b : UInt8) (s : List UInt8) : splitOn b s ≠ [] := by
  cases s with
  | nil => simp [splitOn]
  | cons x r => unfold splitOn; split; simp; unfold glue; split <;> simp
theorem glue_nil {l : List (List UInt8)} (h : l ≠ []) : glue [] l = l := by cases l with | nil => exact absurd rfl h | cons x xs => rfl
theorem glue_glue (w : List UInt8) (x : UInt8) (l : List (List UInt8)) : glue w (glue [x] l) = glue (w ++ [x]) l := by cases l <;> simp [glue]
def restS (b : UInt8) (s : List UInt8) (a i : Nat) : List (List UInt8) := if i ≤ s.length then glue ((s.take i).drop a) (splitOn b (s.drop i)) else []
theorem rest0 (b : UInt8) (s : List UInt8) : restS b s 0 0 = splitOn b s := by simp [restS, glue_nil (splitOn_ne b s)]
theorem rest_sep {b : UInt8} {s : List UInt8} {a i : Nat} (hi : i ≤ s.length) (h : (((i : Int) == (s.length : Int)) || (((s.getD i 0).toNat : Int) == (b.toNat : Int))) = true) : restS b s a i = (s.take i).drop a :: restS b s (i + 1) (i + 1) := by
  unfold restS
  rw [if_pos hi]
  by_cases e : i = s.length
  · subst e
    rw [if_neg (by omega), List.drop_of_length_le (Nat.le_refl _)]; simp [splitOn, glue]
  · have hk : i < s.length := by omega
    rw [if_pos (show i + 1 ≤ s.length from hk), drop_gD hk]
    have h2 : (((s.getD i 0).toNat : Int) == (b.toNat : Int)) = true := by
      rw [Bool.or_eq_true] at h; rcases h with h | h
      · simp at h; omega
      · exact h
    rw [splitOn_cons, if_pos h2]
    have e3 : (s.take (i + 1)).drop (i + 1) = [] := List.drop_of_length_le (by simp; omega)
    rw [e3, glue_nil (splitOn_ne _ _)]; simp [glue]
theorem rest_on {b : UInt8} {s : List UInt8} {a i : Nat} (ha : a ≤ i) (hk : i < s.length) (h : (((i : Int) == (s.length : Int)) || (((s.getD i 0).toNat : Int) == (b.toNat : Int))) = false) : restS b s a i = restS b s a (i + 1) := by
  unfold restS
  rw [if_pos (by omega), if_pos (by omega), drop_gD hk]
  rw [Bool.or_eq_false_iff] at h
  rw [splitOn_cons, if_neg (by rw [h.2]; decide), glue_glue, take_gD hk, List.drop_append_of_le_length (by simp; omega)]
theorem split_done {b : UInt8} {s : List UInt8} {acc : List (List UInt8)} {a i : Nat} (hi : splitOn b s = acc ++ restS b s a i) (h : s.length < i) : splitOn b s = acc := by rw [hi]; unfold restS; rw [if_neg (by omega), List.append_nil]
theorem le_of_decL {i j : Nat} (h : decide ((i : Int) ≤ (j : Int)) = true) : i ≤ j := by simpa using h
theorem gt_of_decL {i j : Nat} (h : decide ((i : Int) ≤ (j : Int)) = false) : j < i := by simpa using h
theorem sep_ne {i n : Nat} {q : Bool} (h : (((i : Int) == (n : Int)) || q) = false) (h1 : i ≤ n) : i < n := by
  rw [Bool.or_eq_false_iff] at h
  have := h.1
  simp only [beq_eq_false_iff_ne, ne_eq] at this
  omega
def k1 (p : Part) : Bool := (decide (p.keep > 0) && (p.drop == 0)) && (p.put == [])
def k2 (p : Part) : Bool := ((p.keep == 0) && decide (p.drop > 0)) && (p.put == [])
def k3 (p : Part) : Bool := ((p.keep == 0) && (p.drop == 0)) && !(p.put == [])
def kindP (p : Part) : Int := if k1 p = true then 1 else if k2 p = true then 2 else if k3 p = true then 3 else 0
theorem kind_nn {p : Part} (h : (kindP p == 0) = false) : 0 ≤ p.keep ∧ 0 ≤ p.drop := by
  unfold kindP at h
  split at h
  · rename_i hh; simp [k1] at hh; omega
  · split at h
    · rename_i hh; simp [k2] at hh; omega
    · split at h
      · rename_i hh; simp [k3] at hh; omega
      · simp at h

/-! spec.l14Split -/
theorem specSplit (s : List UInt8) (b : UInt8) (hs : s.length ≤ 1048576) (w : World) : CP Tryd.prog 14 [str s, .int .u8 b.toNat] w (fun v : Value => v) (fun v => [Row 9 1 v (splitOn b s).length ((splitOn b s).flatMap cStr)]) := by
  refine enter Tryd.func14 rfl rfl rfl (Sat.start w) ?_
  simp only [mkL]
  refine WC.seq ?_
  refine WC.region ?_
  refine WO.val (.asg (.r rfl)) rfl ?_
  refine WO.nil ?_
  refine KQ.seq ?_
  refine WC.seq ?_
  refine WC.region ?_
  refine WO.val (.asg (.r rfl)) rfl ?_
  refine WO.nil ?_
  refine KQ.seq ?_
  refine WC.seq ?_
  refine WC.region ?_
  refine WO.val (.asg (.r rfl)) rfl ?_
  refine WO.nil ?_
  refine KQ.seq ?_
  refine WC.seq ?_
  refine WC.seq ?_
  refine WC.region ?_
  refine WO.val (.asg (.r rfl)) rfl ?_
  refine WO.nil ?_
  refine KQ.seq ?_
  refine WC.block ?_
  refine WC.loop (σ := {p : (Nat × Nat) × List (List UInt8) × Value // p.1.1 ≤ p.1.2 ∧ splitOn b s = p.2.1 ++ restS b s p.1.1 p.1.2 ∧ p.2.1.length ≤ p.1.2 ∧ p.1.2 ≤ s.length + 1}) (fun q => [(0, str s), (1, .int .u8 b.toNat), (5, q.1.2.2), (6, .int .i64 (q.1.1.1 : Nat)), (7, .int .i64 (q.1.1.2 : Nat))]) (fun q => [Row 9 1 q.1.2.2 q.1.2.1.length (q.1.2.1.flatMap cStr)]) (fun q => s.length + 1 - q.1.1.2) (⟨((0, 0), [], .slice none 0 0), by simp [rest0]⟩) (by exact ⟨rfl, rfl, rfl, rfl, rfl, trivial⟩) (fun w hw => hw.rowN) ?_
  rintro ⟨⟨⟨a, i⟩, acc, v⟩, h2, hi, hn, h3⟩
  dsimp only at h2 hi hn h3
  dsimp only
  refine WC.seq ?_
  refine WC.seq ?_
  refine WC.region ?_
  refine WO.val (.mv (.r rfl)) rfl ?_
  refine WO.val (.mv (.r rfl)) rfl ?_
  refine WO.val (.lenT Tryd.underlying9 (.r rfl)) rfl ?_
  refine WO.val (.bin (.r rfl) (.r rfl) rfl) rfl ?_
  refine WO.nil ?_
  refine KQ.seq ?_
  refine WC.cond rfl (fun c1 => ?_) (fun c1 => ?_)
  · have hk := le_of_decL c1
    refine WC.skip ?_
    refine KQ.seq ?_
    refine WC.seq ?_
    refine WC.block ?_
    refine WC.seq ?_
    refine WC.region ?_
    refine WO.val (.mv (.r rfl)) rfl ?_
    refine WO.val (.mv (.r rfl)) rfl ?_
    refine WO.val (.lenT Tryd.underlying9 (.r rfl)) rfl ?_
    refine WO.val (.bin (.r rfl) (.r rfl) rfl) rfl ?_
    refine WO.val (.mv (.r rfl)) rfl ?_
    refine WO.gd rfl rfl rfl (fun h => (.mv (.r rfl))) ?_
    refine WO.gd rfl rfl rfl (fun h => (.mv (.r rfl))) ?_
    refine WO.gd rfl rfl rfl (fun h => (.ixT Tryd.underlying9 (.g h rfl) (.g h rfl) (gD (by simp at h; omega)))) ?_
    refine WO.gd rfl rfl rfl (fun h => (.mv (.r rfl))) ?_
    refine WO.gd rfl rfl rfl (fun h => (.bin (.g h rfl) (.g h rfl) rfl)) ?_
    refine WO.val (.or rfl rfl) rfl ?_
    refine WO.nil ?_
    refine KQ.seq ?_
    refine WC.cond rfl (fun c2 => ?_) (fun c2 => ?_)
    · refine WC.seq ?_
      refine WC.region ?_
      refine WO.val (.mv (.r rfl)) rfl ?_
      refine WO.val (.mv (.r rfl)) rfl ?_
      refine WO.val (.mv (.r rfl)) rfl ?_
      refine WO.val (.mv (.r rfl)) rfl ?_
      refine WO.val (.slLH Tryd.underlying9 (.r rfl) (.r rfl) (.r rfl) h2 hk) rfl ?_
      refine WO.bs (vs := [str ((s.take i).drop a)]) (c := (cStr ((s.take i).drop a))) sli_33 rfl rfl rfl (by omega) (by intro v hv; simp at hv; subst hv; rfl) rfl (by omega) fun g => ?_
      refine WO.pull 1 (.s .z) ?_
      refine WO.app (k := 1) (c := 1) (news := (cStr ((s.take i).drop a))) sli_33 rfl rfl rfl rfl (fun w hw => has_blk (hw.blkAt (k := 1) rfl) rfl) (by intro u hu; simp [cStr] at hu; subst hu; rfl) (by rw [maxLen_eq]; omega) (by omega) fun u => ?_
      refine WO.val (.asg (.r rfl)) rfl ?_
      refine WO.nil ?_
      refine KQ.seq ?_
      refine WC.region ?_
      refine WO.val (.mv (.r rfl)) rfl ?_
      refine WO.val (.bin (.r rfl) (.r rfl) (pb_inc (by omega))) rfl ?_
      refine WO.val (.asg (.r rfl)) rfl ?_
      refine WO.nil ?_
      refine KQ.blockN (KQ.seq ?_)
      refine WC.region ?_
      refine WO.val (.mv (.r rfl)) rfl ?_
      refine WO.val (.bin (.r rfl) (.r rfl) (pb_inc (by omega))) rfl ?_
      refine WO.val (.asg (.r rfl)) rfl ?_
      refine WO.nil ?_
      refine KQ.again (⟨((i + 1, i + 1), acc ++ [(s.take i).drop a], u), by simp, by dsimp only; rw [hi, rest_sep hk c2]; simp, by simp; omega, by dsimp only; omega⟩) (by dsimp only; omega) (by exact ⟨rfl, rfl, rfl, rfl, rfl, trivial⟩) (fun w hw => by have := hw.first; simpa [cStr] using this)
    · refine WC.skip ?_
      refine KQ.blockN (KQ.seq ?_)
      refine WC.region ?_
      refine WO.val (.mv (.r rfl)) rfl ?_
      refine WO.val (.bin (.r rfl) (.r rfl) (pb_inc (by omega))) rfl ?_
      refine WO.val (.asg (.r rfl)) rfl ?_
      refine WO.nil ?_
      refine KQ.again (⟨((a, i + 1), acc, v), by dsimp only; omega, by dsimp only; rw [hi, rest_on h2 (sep_ne c2 hk) c2], by dsimp only; omega, by dsimp only; omega⟩) (by dsimp only; omega) (by exact ⟨rfl, rfl, rfl, rfl, rfl, trivial⟩) (fun w hw => hw)
  · refine WC.exit ?_
    refine KQ.thenX (KQ.thenX (KQ.blockX (KQ.seq ?_)))
    refine WC.seq ?_
    refine WC.region ?_
    refine WO.val (.mv (.r rfl)) rfl ?_
    refine WO.val (.asg (.r rfl)) rfl ?_
    refine WO.nil ?_
    refine KQ.seq ?_
    refine WC.ret ?_
    exact KQ.fin rfl (.tmp rfl .nil) (fun w hw => ⟨_, rfl, by rw [split_done hi (gt_of_decL c1)]; exact hw⟩)
/-! spec.l1Kind -/
theorem specKind (p : Part) (w : World) : CV Tryd.prog 29 [.agg (cPart p).toArray] w (.int .i64 (kindP p)) := by
  refine CV.of ?_
  refine enter Tryd.func29 rfl rfl rfl (Sat.start w) ?_
  simp only [mkL]
  refine WC.seq ?_
  refine WC.region ?_
  refine WO.bx rfl rfl rfl fun g1 => ?_
  refine WO.val (.asg (.r rfl)) rfl ?_
  refine WO.nil ?_
  refine KQ.seq ?_
  refine WC.seq ?_
  refine WC.block ?_
  refine WC.seq ?_
  refine WC.region ?_
  refine WO.val (.faL fld_36_0 (.r rfl) rfl) rfl ?_
  refine WO.val (.ldB (k := 0) one_3 (.r rfl) rfl rfl) rfl ?_
  refine WO.val (.bin (.r rfl) (.r rfl) rfl) rfl ?_
  refine WO.val (.mv (.r rfl)) rfl ?_
  refine WO.gd rfl rfl rfl (fun h => (.faL fld_36_1 (.r rfl) rfl)) ?_
  refine WO.gd rfl rfl rfl (fun h => (.ldB (k := 0) one_3 (.g h rfl) rfl rfl)) ?_
  refine WO.gd rfl rfl rfl (fun h => (.bin (.g h rfl) (.r rfl) rfl)) ?_
  refine WO.val (.and rfl rfl) rfl ?_
  refine WO.val (.mv (.r rfl)) rfl ?_
  refine WO.gd rfl rfl rfl (fun h => (.faL fld_36_2 (.r rfl) rfl)) ?_
  refine WO.gd rfl rfl rfl (fun h => (.ldB (k := 0) one_9 (.g h rfl) rfl rfl)) ?_
  refine WO.gd rfl rfl rfl (fun h => (.eqS (.g h rfl) (.r rfl))) ?_
  refine WO.val (.and rfl rfl) rfl ?_
  refine WO.val (.asg (.r rfl)) rfl ?_
  refine WO.nil ?_
  refine KQ.seq ?_
  refine WC.cond rfl (fun c1 => ?_) (fun c1 => ?_)
  · refine WC.seq ?_
    refine WC.region ?_
    refine WO.val (.asg (.r rfl)) rfl ?_
    refine WO.nil ?_
    refine KQ.seq ?_
    refine WC.ret ?_
    exact KQ.blockR (KQ.thenR (KQ.fin rfl (.tmp rfl .nil) (fun w hw => ⟨(), by rw [show kindP p = 1 from by unfold kindP; rw [if_pos (show k1 p = true from c1)]]; rfl, hw.none⟩)))
  · refine WC.seq ?_
    refine WC.region ?_
    refine WO.val (.faL fld_36_0 (.r rfl) rfl) rfl ?_
    refine WO.val (.ldB (k := 0) one_3 (.r rfl) rfl rfl) rfl ?_
    refine WO.val (.bin (.r rfl) (.r rfl) rfl) rfl ?_
    refine WO.val (.mv (.r rfl)) rfl ?_
    refine WO.gd rfl rfl rfl (fun h => (.faL fld_36_1 (.r rfl) rfl)) ?_
    refine WO.gd rfl rfl rfl (fun h => (.ldB (k := 0) one_3 (.g h rfl) rfl rfl)) ?_
    refine WO.gd rfl rfl rfl (fun h => (.bin (.g h rfl) (.r rfl) rfl)) ?_
    refine WO.val (.and rfl rfl) rfl ?_
    refine WO.val (.mv (.r rfl)) rfl ?_
    refine WO.gd rfl rfl rfl (fun h => (.faL fld_36_2 (.r rfl) rfl)) ?_
    refine WO.gd rfl rfl rfl (fun h => (.ldB (k := 0) one_9 (.g h rfl) rfl rfl)) ?_
    refine WO.gd rfl rfl rfl (fun h => (.eqS (.g h rfl) (.r rfl))) ?_
    refine WO.val (.and rfl rfl) rfl ?_
    refine WO.val (.asg (.r rfl)) rfl ?_
    refine WO.nil ?_
    refine KQ.seq ?_
    refine WC.cond rfl (fun c2 => ?_) (fun c2 => ?_)
    · refine WC.seq ?_
      refine WC.region ?_
      refine WO.val (.asg (.r rfl)) rfl ?_
      refine WO.nil ?_
      refine KQ.seq ?_
      refine WC.ret ?_
      exact KQ.blockR (KQ.thenR (KQ.fin rfl (.tmp rfl .nil) (fun w hw => ⟨(), by rw [show kindP p = 2 from by unfold kindP; rw [if_neg (by rw [show k1 p = false from c1]; decide), if_pos (show k2 p = true from c2)]]; rfl, hw.none⟩)))
    · refine WC.seq ?_
      refine WC.region ?_
      refine WO.val (.faL fld_36_0 (.r rfl) rfl) rfl ?_
      refine WO.val (.ldB (k := 0) one_3 (.r rfl) rfl rfl) rfl ?_
      refine WO.val (.bin (.r rfl) (.r rfl) rfl) rfl ?_
      refine WO.val (.mv (.r rfl)) rfl ?_
      refine WO.gd rfl rfl rfl (fun h => (.faL fld_36_1 (.r rfl) rfl)) ?_
      refine WO.gd rfl rfl rfl (fun h => (.ldB (k := 0) one_3 (.g h rfl) rfl rfl)) ?_
      refine WO.gd rfl rfl rfl (fun h => (.bin (.g h rfl) (.r rfl) rfl)) ?_
      refine WO.val (.and rfl rfl) rfl ?_
      refine WO.val (.mv (.r rfl)) rfl ?_
      refine WO.gd rfl rfl rfl (fun h => (.faL fld_36_2 (.r rfl) rfl)) ?_
      refine WO.gd rfl rfl rfl (fun h => (.ldB (k := 0) one_9 (.g h rfl) rfl rfl)) ?_
      refine WO.gd rfl rfl rfl (fun h => (.neS (.g h rfl) (.r rfl))) ?_
      refine WO.val (.and rfl rfl) rfl ?_
      refine WO.val (.asg (.r rfl)) rfl ?_
      refine WO.nil ?_
      refine KQ.seq ?_
      refine WC.cond rfl (fun c3 => ?_) (fun c3 => ?_)
      · refine WC.seq ?_
        refine WC.region ?_
        refine WO.val (.asg (.r rfl)) rfl ?_
        refine WO.nil ?_
        refine KQ.seq ?_
        refine WC.ret ?_
        exact KQ.blockR (KQ.thenR (KQ.fin rfl (.tmp rfl .nil) (fun w hw => ⟨(), by rw [show kindP p = 3 from by unfold kindP; rw [if_neg (by rw [show k1 p = false from c1]; decide), if_neg (by rw [show k2 p = false from c2]; decide), if_pos (show k3 p = true from c3)]]; rfl, hw.none⟩)))
      · refine WC.skip ?_
        refine KQ.blockN (KQ.seq ?_)
        refine WC.seq ?_
        refine WC.region ?_
        refine WO.val (.asg (.r rfl)) rfl ?_
        refine WO.nil ?_
        refine KQ.seq ?_
        refine WC.ret ?_
        exact KQ.fin rfl (.tmp rfl .nil) (fun w hw => ⟨(), by rw [show kindP p = 0 from by unfold kindP; rw [if_neg (by rw [show k1 p = false from c1]; decide), if_neg (by rw [show k2 p = false from c2]; decide), if_neg (by rw [show k3 p = false from c3]; decide)]]; rfl, hw.none⟩)
end Go.Proofs.YtfnaplhjkapghaaDoor
