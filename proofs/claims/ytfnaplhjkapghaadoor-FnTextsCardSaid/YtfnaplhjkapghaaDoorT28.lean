/- A part of the proofs of this seat: contracts of the functions that its statements reach. -/
import Derived.Test.YtfnaplhjkapghaaDoorT27
import Derived.Test.YtfnaplhjkapghaaDoorProg
set_option linter.unusedVariables false
set_option linter.unusedSimpArgs false
set_option maxRecDepth 4000
namespace Go.Proofs.YtfnaplhjkapghaaDoor
open Go Go.RowKit Go.Proofs.YtfnaplhjkapghaaDoor.Sp
theorem ent_26 : Ent Tryd.prog 26 := ent_of Tryd.prog Tryd.func26 rfl rfl
theorem ent_43 : Ent Tryd.prog 43 := ent_of Tryd.prog Tryd.func43 rfl rfl
theorem ent_44 : Ent Tryd.prog 44 := ent_of Tryd.prog Tryd.func44 rfl rfl

theorem dd_len : ∀ (k u : Nat), u < 10 ^ (k + 1) → (Lib.decDigits u).length ≤ k + 1
  | 0, u, h => by rw [Lib.decDigits, dif_pos (by simpa using h)]; simp
  | k + 1, u, h => by
    rw [Lib.decDigits]
    split
    · simp
    · have := dd_len k (u / 10) (by rw [Nat.pow_succ] at h; omega)
      simp; omega
theorem dd_len20 {u : Nat} (h : u ≤ 9223372036854775807) : (Lib.decDigits u).length ≤ 20 := dd_len 19 u (by omega)
theorem dd_small {u : Nat} (h : u < 10) : Lib.decDigits u = [UInt8.ofNat (48 + u)] := by rw [Lib.decDigits, dif_pos h]
theorem dd_big {u : Nat} (h : ¬ u < 10) : Lib.decDigits u = Lib.decDigits (u / 10) ++ [UInt8.ofNat (48 + u % 10)] := by rw [Lib.decDigits, dif_neg h]
theorem itoa_nn {n : Int} (h : 0 ≤ n) : Lib.itoa n = Lib.decDigits n.toNat := by unfold Lib.itoa; rw [if_neg (by omega)]
theorem cvDigS {k : Nat} (h : k < 10) : Value.int .u8 (IntKind.u8.wrap (48 + (k : Int))) = vB (UInt8.ofNat (48 + k)) := by
  rw [u8_in (by omega) (by omega)]
  have : (UInt8.ofNat (48 + k)).toNat = 48 + k := by rw [UInt8.toNat_ofNat']; omega
  unfold vB; rw [this]; congr 1
theorem pb_quo16 (b : UInt8) : pbin .quo (.int .u8 (b.toNat : Int)) (.int .u8 16) = some (.int .u8 ((b.toNat / 16 : Nat) : Int)) := by
  have := b.toNat_lt
  show some (Value.int .u8 (IntKind.u8.wrap ((b.toNat : Int).tdiv 16))) = _
  rw [Int.tdiv_eq_ediv_of_nonneg (by omega), u8_in (by omega) (by omega)]; rfl
theorem pb_rem16 (b : UInt8) : pbin .rem (.int .u8 (b.toNat : Int)) (.int .u8 16) = some (.int .u8 ((b.toNat % 16 : Nat) : Int)) := by
  show some (Value.int .u8 ((b.toNat : Int).tmod 16)) = _
  rw [Int.tmod_eq_emod_of_nonneg (by omega)]; rfl
def partS (p : Part) : List UInt8 := if decide (p.keep > 0) = true then 61 :: Lib.itoa p.keep else if decide (p.drop > 0) = true then 45 :: Lib.itoa p.drop else 43 :: codedL p.put
def smallP (p : Part) : Prop := 0 ≤ p.keep ∧ 0 ≤ p.drop ∧ p.keep ≤ 120 ∧ p.drop ≤ 120 ∧ p.put.length ≤ 120
theorem partS_len {p : Part} (h : smallP p) : (partS p).length ≤ 400 := by
  obtain ⟨h1, h2, h3, h4, h5⟩ := h
  unfold partS
  split
  · have := dd_len20 (u := p.keep.toNat) (by omega); rw [itoa_nn h1]; simp; omega
  · split
    · have := dd_len20 (u := p.drop.toNat) (by omega); rw [itoa_nn h2]; simp; omega
    · have := codedL_len p.put; simp; omega
theorem gspec_small : ∀ (l : List Part) (pk : Option Int) (a b : Int), gspec pk a b l = true → ∀ p ∈ l, smallP p ∧ (kindP p == 0) = false
  | [], _, _, _, _, p, hp => by cases hp
  | q :: r, pk, a, b, h, p, hp => by
    rw [gspec] at h
    split at h
    · cases h
    · rename_i hb
      split at h
      · cases h
      · have hb' : badP pk q = false := by simpa using hb
        rcases List.mem_cons.1 hp with rfl | hp
        · refine ⟨badP_ok hb', ?_⟩
          unfold badP at hb'
          simp only [Bool.or_eq_false_iff] at hb'
          exact hb'.1.1.1.1
        · exact gspec_small r _ _ _ h p hp
theorem good_small {l : List Part} (h : good l = true) {k : Nat} (hk : k < l.length) : smallP (l.getD k p0) ∧ (kindP (l.getD k p0) == 0) = false := gspec_small l none 0 0 h _ (getD_mem hk)
theorem kind_1 {p : Part} (h : (kindP p == 1) = true) : decide (p.keep > 0) = true := by
  have h : kindP p = 1 := by simpa using h
  unfold kindP at h
  by_cases c1 : k1 p = true
  · unfold k1 at c1; simp at c1 ⊢; omega
  · rw [if_neg c1] at h; split at h; cases h; split at h; cases h; cases h
theorem kind_2 {p : Part} (h : (kindP p == 2) = true) : decide (p.keep > 0) = false ∧ decide (p.drop > 0) = true := by
  have h : kindP p = 2 := by simpa using h
  unfold kindP at h
  by_cases c1 : k1 p = true
  · rw [if_pos c1] at h; cases h
  · rw [if_neg c1] at h
    by_cases c2 : k2 p = true
    · unfold k2 at c2; simp at c2 ⊢; omega
    · rw [if_neg c2] at h; split at h; cases h; cases h
theorem kind_3 {p : Part} (h0 : (kindP p == 0) = false) (h1 : (kindP p == 1) = false) (h2 : (kindP p == 2) = false) : k3 p = true ∧ decide (p.keep > 0) = false ∧ decide (p.drop > 0) = false := by
  unfold kindP at h0 h1 h2
  by_cases c1 : k1 p = true
  · rw [if_pos c1] at h1; cases h1
  · rw [if_neg c1] at h0 h2
    by_cases c2 : k2 p = true
    · rw [if_pos c2] at h2; cases h2
    · rw [if_neg c2] at h0
      by_cases c3 : k3 p = true
      · refine ⟨c3, ?_⟩
        unfold k3 at c3; simp at c3 ⊢; omega
      · rw [if_neg c3] at h0; cases h0
theorem partS_1 {p : Part} (h : decide (p.keep > 0) = true) : partS p = 61 :: Lib.itoa p.keep := by rw [partS, if_pos h]
theorem partS_2 {p : Part} (h : decide (p.keep > 0) = false) (h2 : decide (p.drop > 0) = true) : partS p = 45 :: Lib.itoa p.drop := by rw [partS, if_neg (by rw [h]; decide), if_pos h2]
theorem partS_3 {p : Part} (h : decide (p.keep > 0) = false) (h2 : decide (p.drop > 0) = false) : partS p = 43 :: codedL p.put := by rw [partS, if_neg (by rw [h]; decide), if_neg (by rw [h2]; decide)]
def txt (l : List Part) : List UInt8 := Lib.join (l.map partS) [32]
def spS (k : Nat) : List UInt8 := if decide ((k : Int) > 0) = true then [32] else []
theorem spS_t {k : Nat} (h : decide ((k : Int) > 0) = true) : spS k = [32] := by rw [spS, if_pos h]
theorem spS_f {k : Nat} (h : decide ((k : Int) > 0) = false) : spS k = [] := by rw [spS, if_neg (by rw [h]; decide)]
theorem jt_snoc (sep x : List UInt8) (r : List (List UInt8)) : Lib.joinTail sep (r ++ [x]) = Lib.joinTail sep r ++ (sep ++ x) := by simp [Lib.joinTail]
theorem txt_take {l : List Part} {k : Nat} (hk : k < l.length) : txt (l.take (k + 1)) = txt (l.take k) ++ spS k ++ partS (l.getD k p0) := by
  have e : l.take (k + 1) = l.take k ++ [l.getD k p0] := by
    rw [List.take_add_one]; simp [List.getD, List.getElem?_eq_getElem hk]
  unfold txt
  rw [e, List.map_append]
  cases k with
  | zero => simp [spS, Lib.join_nil, Lib.join_one]
  | succ k =>
    cases l with
    | nil => simp at hk
    | cons x r =>
      have hs : spS (k + 1) = [32] := by unfold spS; rw [if_pos (by simp <;> omega)]
      rw [hs, List.take_succ_cons, List.map_cons, List.cons_append, Lib.join_cons, Lib.join_cons, List.map_cons, List.map_nil, jt_snoc]
      simp
theorem txt_len {l : List Part} (hG : ∀ p ∈ l, smallP p) : ∀ k, k ≤ l.length → (txt (l.take k)).length ≤ k * 401
  | 0, _ => by simp [txt, Lib.join_nil]
  | k + 1, h => by
    have ih := txt_len hG k (by omega)
    have h1 := partS_len (hG _ (getD_mem (show k < l.length by omega)))
    have h2 : (spS k).length ≤ 1 := by unfold spS; split <;> simp
    rw [txt_take (by omega)]
    simp only [List.length_append]; omega
def chT (l : List Part) : List UInt8 := if ((l.length : Int) == 0) = true then [46] else txt l
def partB (p q : Part) : Bool := p.keep == q.keep && (p.drop == q.drop && (p.put == q.put && true))
theorem partB_iff (p q : Part) : partB p q = decide (p = q) := by
  unfold partB
  by_cases h : p = q
  · subst h; simp
  · rw [decide_eq_false h]
    apply Bool.eq_false_iff.2
    intro hb
    simp at hb
    exact h (by cases p; cases q; simp_all)

/-! spec.l1Num -/
theorem l1numC (n : Nat) : n ≤ 9223372036854775807 → ∀ w : World, CV Tryd.prog 43 [.int .i64 (n : Int)] w (str (Lib.decDigits n)) := by
  refine Nat.strongRecOn n fun n ih hn w => ?_
  refine CV.of ?_
  refine enter Tryd.func43 rfl rfl rfl (Sat.start w) ?_
  simp only [mkL]
  refine WC.seq ?_
  refine WC.region ?_
  refine WO.val (.asg (.r rfl)) rfl ?_
  refine WO.nil ?_
  refine KQ.seq ?_
  refine WC.seq ?_
  refine WC.seq ?_
  refine WC.region ?_
  refine WO.val (.mv (.r rfl)) rfl ?_
  refine WO.val (.bin (.r rfl) (.r rfl) rfl) rfl ?_
  refine WO.nil ?_
  refine KQ.seq ?_
  refine WC.cond rfl (fun c1 => ?_) (fun c1 => ?_)
  · exact absurd c1 (by simp <;> omega)
  · refine WC.skip ?_
    refine KQ.seq ?_
    refine WC.seq ?_
    refine WC.seq ?_
    refine WC.region ?_
    refine WO.val (.mv (.r rfl)) rfl ?_
    refine WO.val (.bin (.r rfl) (.r rfl) rfl) rfl ?_
    refine WO.nil ?_
    refine KQ.seq ?_
    refine WC.cond rfl (fun c2 => ?_) (fun c2 => ?_)
    · have hlt : n < 10 := by have := of_decide_eq_true c2; omega
      refine WC.seq ?_
      refine WC.region ?_
      refine WO.val (.mv (.r rfl)) rfl ?_
      refine WO.val (.bin (.r rfl) (.r rfl) (pb_add (by omega) (by omega))) rfl ?_
      refine WO.val (.cvi Tryd.underlying3 Tryd.underlying5 (.r rfl) (cvDigS hlt)) rfl ?_
      refine WO.bs (vs := [vB (UInt8.ofNat (48 + n))]) (c := [vB (UInt8.ofNat (48 + n))]) sli_28 rfl rfl rfl (by omega) (by intro v hv; obtain rfl := List.mem_singleton.1 hv; rfl) rfl (by omega) fun g9 => ?_
      refine WO.val (.cvT (l := [UInt8.ofNat (48 + n)]) Tryd.underlying28 Tryd.underlying5 Tryd.underlying9 (.r rfl) (fun w hw => row_lit hw)) rfl ?_
      refine WO.val (.asg (.r rfl)) rfl ?_
      refine WO.nil ?_
      refine KQ.seq ?_
      refine WC.ret ?_
      exact KQ.thenR (KQ.fin rfl (.tmp rfl .nil) (fun w hw => ⟨(), by rw [dd_small hlt]; rfl, hw.none⟩))
    · have hlt : ¬ n < 10 := by have := of_decide_eq_false c2; omega
      refine WC.skip ?_
      refine KQ.seq ?_
      refine WC.seq ?_
      refine WC.zoneG 11 (by kernel_rfl) ?_
      refine WZ.take 0 rfl (by kernel_rfl) (fun w hw => hw) (.mv (.r rfl)) rfl ?_
      refine WZ.take 1 rfl (by kernel_rfl) (fun w hw => hw) (.bin (.r rfl) (.r rfl) (pb_quo10 (by omega))) rfl ?_
      refine WZ.take 3 rfl (by kernel_rfl) (fun w hw => hw) (.mv (.r rfl)) rfl ?_
      refine WZ.take 4 rfl (by kernel_rfl) (fun w hw => hw) (.bin (.r rfl) (.r rfl) pb_rem10) rfl ?_
      refine WZ.take 5 rfl (by kernel_rfl) (fun w hw => hw) (.bin (.r rfl) (.r rfl) (pb_add (by omega) (by omega))) rfl ?_
      refine WZ.take 6 rfl (by kernel_rfl) (fun w hw => hw) (.cvi Tryd.underlying3 Tryd.underlying5 (.r rfl) cvDig) rfl ?_
      refine WZ.two 2 7 rfl rfl (by kernel_rfl) ?_ ?_
      · refine WO.callS rfl ent_43 rfl (fun w hw => ih (n / 10) (by omega) (by omega) w) ?_
        refine WO.nil (KQ.zone (.inr fun w hw => hw) ?_)
        refine WZ.one 7 rfl (by kernel_rfl) ?_
        refine WO.bs (vs := [vB (UInt8.ofNat (48 + n % 10))]) (c := [vB (UInt8.ofNat (48 + n % 10))]) sli_28 rfl rfl rfl (by omega) (by intro v hv; obtain rfl := List.mem_singleton.1 hv; rfl) rfl (by omega) fun g9 => ?_
        refine WO.nil (KQ.zone (.inr fun w hw => (hw).drop) ?_)
        refine WZ.one 8 rfl (by kernel_rfl) ?_
        refine WO.val (.cvT (l := [UInt8.ofNat (48 + n % 10)]) Tryd.underlying28 Tryd.underlying5 Tryd.underlying9 (.r rfl) (fun w hw => row_lit hw)) rfl ?_
        refine WO.nil (KQ.zone (.inr fun w hw => (hw).drop) ?_)
        refine WZ.take 9 rfl (by kernel_rfl) (fun w hw => (hw).drop) (.addS (.r rfl) (.r rfl) (by have := dd_len20 (show n / 10 ≤ 9223372036854775807 by omega); simp; omega)) rfl ?_
        refine WZ.take 10 rfl (by kernel_rfl) (fun w hw => (hw).drop) (.asg (.r rfl)) rfl ?_
        refine WZ.nil (by kernel_rfl) ?_
        refine KQ.seq ?_
        refine WC.ret ?_
        exact KQ.fin rfl (.tmp rfl .nil) (fun w hw => ⟨(), by rw [dd_big hlt]; rfl, hw.none⟩)
      · refine WO.bs (vs := [vB (UInt8.ofNat (48 + n % 10))]) (c := [vB (UInt8.ofNat (48 + n % 10))]) sli_28 rfl rfl rfl (by omega) (by intro v hv; obtain rfl := List.mem_singleton.1 hv; rfl) rfl (by omega) fun g9 => ?_
        refine WO.nil (KQ.zone (.inr fun w hw => (hw).drop) ?_)
        refine WZ.two 2 8 rfl rfl (by kernel_rfl) ?_ ?_
        · refine WO.callS rfl ent_43 rfl (fun w hw => ih (n / 10) (by omega) (by omega) w) ?_
          refine WO.nil (KQ.zone (.inr fun w hw => (hw).drop) ?_)
          refine WZ.one 8 rfl (by kernel_rfl) ?_
          refine WO.val (.cvT (l := [UInt8.ofNat (48 + n % 10)]) Tryd.underlying28 Tryd.underlying5 Tryd.underlying9 (.r rfl) (fun w hw => row_lit hw)) rfl ?_
          refine WO.nil (KQ.zone (.inr fun w hw => (hw).drop) ?_)
          refine WZ.take 9 rfl (by kernel_rfl) (fun w hw => (hw).drop) (.addS (.r rfl) (.r rfl) (by have := dd_len20 (show n / 10 ≤ 9223372036854775807 by omega); simp; omega)) rfl ?_
          refine WZ.take 10 rfl (by kernel_rfl) (fun w hw => (hw).drop) (.asg (.r rfl)) rfl ?_
          refine WZ.nil (by kernel_rfl) ?_
          refine KQ.seq ?_
          refine WC.ret ?_
          exact KQ.fin rfl (.tmp rfl .nil) (fun w hw => ⟨(), by rw [dd_big hlt]; rfl, hw.none⟩)
        · refine WO.val (.cvT (l := [UInt8.ofNat (48 + n % 10)]) Tryd.underlying28 Tryd.underlying5 Tryd.underlying9 (.r rfl) (fun w hw => row_lit hw)) rfl ?_
          refine WO.nil (KQ.zone (.inr fun w hw => (hw).drop) ?_)
          refine WZ.one 2 rfl (by kernel_rfl) ?_
          refine WO.callS rfl ent_43 rfl (fun w hw => ih (n / 10) (by omega) (by omega) w) ?_
          refine WO.nil (KQ.zone (.inr fun w hw => (hw).drop) ?_)
          refine WZ.take 9 rfl (by kernel_rfl) (fun w hw => (hw).drop) (.addS (.r rfl) (.r rfl) (by have := dd_len20 (show n / 10 ≤ 9223372036854775807 by omega); simp; omega)) rfl ?_
          refine WZ.take 10 rfl (by kernel_rfl) (fun w hw => (hw).drop) (.asg (.r rfl)) rfl ?_
          refine WZ.nil (by kernel_rfl) ?_
          refine KQ.seq ?_
          refine WC.ret ?_
          exact KQ.fin rfl (.tmp rfl .nil) (fun w hw => ⟨(), by rw [dd_big hlt]; rfl, hw.none⟩)

theorem l1numI (n : Int) (h0 : 0 ≤ n) (h1 : n ≤ 9223372036854775807) (w : World) : CV Tryd.prog 43 [.int .i64 n] w (str (Lib.itoa n)) := by
  have h := l1numC n.toNat (by omega) w
  rw [show ((n.toNat : Nat) : Int) = n from by omega, ← itoa_nn h0] at h
  exact h
theorem itoa_len {n : Int} (h0 : 0 ≤ n) (h1 : n ≤ 9223372036854775807) : (Lib.itoa n).length ≤ 20 := by rw [itoa_nn h0]; exact dd_len20 (by omega)

/-! spec.l14Told -/
theorem toldC (s : List UInt8) (hs : s.length ≤ 1048576) (w : World) : CV Tryd.prog 44 [str s] w (str (codedL s)) := by
  refine CV.of ?_
  refine enter Tryd.func44 rfl rfl rfl (Sat.start w) ?_
  simp only [mkL]
  refine WC.seq ?_
  refine WC.region ?_
  refine WO.val (.asg (.r rfl)) rfl ?_
  refine WO.nil ?_
  refine KQ.seq ?_
  refine WC.seq ?_
  refine WC.region ?_
  refine WO.val (.asg (.r rfl)) rfl ?_
  refine WO.nil ?_
  refine KQ.seq ?_
  refine WC.seq ?_
  refine WC.seq ?_
  refine WC.region ?_
  refine WO.val (.asg (.r rfl)) rfl ?_
  refine WO.nil ?_
  refine KQ.seq ?_
  refine WC.block ?_
  refine WC.loop (fun k => [(0, str s), (3, str (codedL (s.take k))), (4, .int .i64 (k : Nat))]) (fun k => []) (fun k => s.length - k) (0) (by exact ⟨rfl, rfl, rfl, trivial⟩) (fun w hw => hw) ?_
  rintro k
  refine WC.seq ?_
  refine WC.seq ?_
  refine WC.region ?_
  refine WO.val (.mv (.r rfl)) rfl ?_
  refine WO.val (.mv (.r rfl)) rfl ?_
  refine WO.val (.lenT Tryd.underlying9 (.r rfl)) rfl ?_
  refine WO.val (.bin (.r rfl) (.r rfl) rfl) rfl ?_
  refine WO.nil ?_
  refine KQ.seq ?_
  refine WC.cond rfl (fun c1 => ?_) (fun c1 => ?_)
  · have hk := lt_of_dec c1
    have hcl := codedL_len (s.take k)
    rw [List.length_take] at hcl
    have hbb := (s.getD k 0).toNat_lt
    refine WC.skip ?_
    refine KQ.seq ?_
    refine WC.seq ?_
    refine WC.block ?_
    refine WC.seq ?_
    refine WC.seq ?_
    refine WC.region ?_
    refine WO.val (.mv (.r rfl)) rfl ?_
    refine WO.val (.mv (.r rfl)) rfl ?_
    refine WO.val (.ixT Tryd.underlying9 (.r rfl) (.r rfl) (gD hk)) rfl ?_
    refine WO.callS rfl ent_27 rfl (fun w hw => specPlain (s.getD k 0) w) ?_
    refine WO.nil ?_
    refine KQ.seq ?_
    refine WC.cond rfl (fun c2 => ?_) (fun c2 => ?_)
    · refine WC.seq ?_
      refine WC.region ?_
      refine WO.val (.mv (.r rfl)) rfl ?_
      refine WO.val (.mv (.r rfl)) rfl ?_
      refine WO.val (.mv (.r rfl)) rfl ?_
      refine WO.val (.mv (.r rfl)) rfl ?_
      refine WO.val (.bin (.r rfl) (.r rfl) (pb_inc (by omega))) rfl ?_
      refine WO.val (.slLH Tryd.underlying9 (.r rfl) (.r rfl) (.r rfl) (by omega) (by omega)) rfl ?_
      refine WO.val (.addS (.r rfl) (.r rfl) (by rw [one_at hk]; simp; omega)) rfl ?_
      refine WO.val (.asg (.r rfl)) rfl ?_
      refine WO.nil ?_
      refine KQ.seq ?_
      refine WC.exit ?_
      refine KQ.thenX (KQ.blockX (KQ.seq ?_))
      refine WC.region ?_
      refine WO.val (.mv (.r rfl)) rfl ?_
      refine WO.val (.bin (.r rfl) (.r rfl) (pb_inc (by omega))) rfl ?_
      refine WO.val (.asg (.r rfl)) rfl ?_
      refine WO.nil ?_
      refine KQ.again (k + 1) (by omega) (by rw [codedL_take hk, codeB, if_pos c2]; exact ⟨rfl, by rw [← one_at hk]; rfl, rfl, trivial⟩) (fun w hw => hw)
    · refine WC.skip ?_
      refine KQ.seq ?_
      refine WC.quiet (by kernel_rfl) (by kernel_rfl) ?_
      refine WQ.val (.mv (.r rfl)) rfl ?_
      refine WQ.val (.mv (.r rfl)) rfl ?_
      refine WQ.val (.mv (.r rfl)) rfl ?_
      refine WQ.val (.ixT Tryd.underlying9 (.r rfl) (.r rfl) (gD hk)) rfl ?_
      refine WQ.val (.bin (.r rfl) (.r rfl) (pb_quo16 (s.getD k 0))) rfl ?_
      refine WQ.val (.mv (.r rfl)) rfl ?_
      refine WQ.val (.mv (.r rfl)) rfl ?_
      refine WQ.val (.ixT Tryd.underlying9 (.r rfl) (.r rfl) (gD hk)) rfl ?_
      refine WQ.val (.bin (.r rfl) (.r rfl) (pb_quo16 (s.getD k 0))) rfl ?_
      refine WQ.val (.bin (.r rfl) (.r rfl) (pb_inc8 (by omega))) rfl ?_
      refine WQ.val (.slLH Tryd.underlying9 (.r rfl) (.r rfl) (.r rfl) (s := hexD) (by omega) (by show _ ≤ 16; omega)) rfl ?_
      refine WQ.val (.addS (.r rfl) (.r rfl) (a := [37]) (by rw [one_sl _ (by omega)]; simp)) rfl ?_
      refine WQ.val (.mv (.r rfl)) rfl ?_
      refine WQ.val (.mv (.r rfl)) rfl ?_
      refine WQ.val (.ixT Tryd.underlying9 (.r rfl) (.r rfl) (gD hk)) rfl ?_
      refine WQ.val (.bin (.r rfl) (.r rfl) (pb_rem16 (s.getD k 0))) rfl ?_
      refine WQ.val (.mv (.r rfl)) rfl ?_
      refine WQ.val (.mv (.r rfl)) rfl ?_
      refine WQ.val (.ixT Tryd.underlying9 (.r rfl) (.r rfl) (gD hk)) rfl ?_
      refine WQ.val (.bin (.r rfl) (.r rfl) (pb_rem16 (s.getD k 0))) rfl ?_
      refine WQ.val (.bin (.r rfl) (.r rfl) (pb_inc8 (by omega))) rfl ?_
      refine WQ.val (.slLH Tryd.underlying9 (.r rfl) (.r rfl) (.r rfl) (s := hexD) (by omega) (by show _ ≤ 16; omega)) rfl ?_
      refine WQ.val (.addS (.r rfl) (.r rfl) (by rw [one_sl _ (by omega), one_sl _ (by omega)]; simp)) rfl ?_
      refine WQ.val (.addS (.r rfl) (.r rfl) (by rw [one_sl _ (by omega), one_sl _ (by omega)]; simp; omega)) rfl ?_
      refine WQ.val (.asg (.r rfl)) rfl ?_
      refine WQ.nil ?_
      refine KQ.blockN (KQ.seq ?_)
      refine WC.region ?_
      refine WO.val (.mv (.r rfl)) rfl ?_
      refine WO.val (.bin (.r rfl) (.r rfl) (pb_inc (by omega))) rfl ?_
      refine WO.val (.asg (.r rfl)) rfl ?_
      refine WO.nil ?_
      refine KQ.again (k + 1) (by omega) (by rw [codedL_take hk, codeB, if_neg (by rw [c2]; decide)]; exact ⟨rfl, by rw [show [37, hexD.getD ((s.getD k 0).toNat / 16) 0, hexD.getD ((s.getD k 0).toNat % 16) 0] = ([37] ++ (hexD.take ((s.getD k 0).toNat / 16 + 1)).drop ((s.getD k 0).toNat / 16)) ++ (hexD.take ((s.getD k 0).toNat % 16 + 1)).drop ((s.getD k 0).toNat % 16) from by rw [one_sl _ (by omega), one_sl _ (by omega)]; rfl]; rfl, rfl, trivial⟩) (fun w hw => hw)
  · refine WC.exit ?_
    refine KQ.thenX (KQ.thenX (KQ.blockX (KQ.seq ?_)))
    refine WC.seq ?_
    refine WC.region ?_
    refine WO.val (.mv (.r rfl)) rfl ?_
    refine WO.val (.asg (.r rfl)) rfl ?_
    refine WO.nil ?_
    refine KQ.seq ?_
    refine WC.ret ?_
    exact KQ.fin rfl (.tmp rfl .nil) (fun w hw => ⟨(), by rw [show codedL s = codedL (s.take k) from by rw [List.take_of_length_le (ge_of_dec c1)]]; rfl, hw⟩)
/-! spec.l14Change -/
theorem spChangeC (l : List Part) (A : Option Addr) (c : Nat) (w : World) (hr : RdL (hp w) rPart A l) (hl : l.length ≤ 1048576) (hG : ∀ p ∈ l, smallP p) : CV Tryd.prog 26 [.slice A l.length c] w (str (chT l)) := by
  refine CV.of ?_
  refine enter Tryd.func26 rfl rfl rfl (Sat.start w) ?_
  simp only [mkL]
  refine WC.seq ?_
  refine WC.region ?_
  refine WO.val (.asg (.r rfl)) rfl ?_
  refine WO.nil ?_
  refine KQ.seq ?_
  refine WC.seq ?_
  refine WC.seq ?_
  refine WC.region ?_
  refine WO.val (.mv (.r rfl)) rfl ?_
  refine WO.val (.len sli_22 (.r rfl)) rfl ?_
  refine WO.val (.bin (.r rfl) (.r rfl) rfl) rfl ?_
  refine WO.nil ?_
  refine KQ.seq ?_
  refine WC.cond rfl (fun k8 => ?_) (fun k8 => ?_)
  · refine WC.seq ?_
    refine WC.region ?_
    refine WO.val (.asg (.r rfl)) rfl ?_
    refine WO.nil ?_
    refine KQ.seq ?_
    refine WC.ret ?_
    exact KQ.thenR (KQ.fin rfl (.tmp rfl .nil) (fun w hw => ⟨(), by rw [chT, if_pos k8]; rfl, hw⟩))
  · refine WC.skip ?_
    refine KQ.seq ?_
    refine WC.seq ?_
    refine WC.region ?_
    refine WO.val (.asg (.r rfl)) rfl ?_
    refine WO.nil ?_
    refine KQ.seq ?_
    refine WC.seq ?_
    refine WC.seq ?_
    refine WC.region ?_
    refine WO.val (.mv (.r rfl)) rfl ?_
    refine WO.val (.len sli_22 (.r rfl)) rfl ?_
    refine WO.val (.mv (.r rfl)) rfl ?_
    refine WO.nil ?_
    refine KQ.seq ?_
    refine WC.block ?_
    refine WC.loop (fun k => [(3, str (txt (l.take k))), (9, .slice A l.length c), (10, .int .i64 (l.length : Nat)), (11, .int .i64 (k : Nat))]) (fun k => []) (fun k => l.length - k) (0) (by exact ⟨rfl, rfl, rfl, rfl, trivial⟩) (fun w hw => hw) ?_
    rintro k
    refine WC.seq ?_
    refine WC.region ?_
    refine WO.val (.bin (.r rfl) (.r rfl) rfl) rfl ?_
    refine WO.nil ?_
    refine KQ.seq ?_
    refine WC.seq ?_
    refine WC.cond rfl (fun k12 => ?_) (fun k12 => ?_)
    · have hk := lt_of_dec k12
      obtain ⟨ad, rfl, _, _, _⟩ := hr k hk
      have hsm := hG _ (getD_mem hk)
      have hpl := partS_len hsm
      have htl := txt_len hG k (by omega)
      have hsp : (spS k).length ≤ 1 := by unfold spS; split <;> simp
      unfold smallP at hsm
      refine WC.skip ?_
      refine KQ.seq ?_
      refine WC.seq ?_
      refine WC.block ?_
      refine WC.seq ?_
      refine WC.region ?_
      refine WO.val (.mv (.r rfl)) rfl ?_
      refine WO.val (.ixn sli_22 (.r rfl) (.r rfl) hk) rfl ?_
      refine WO.val (.ldS (cs := cPart (l.getD k p0)) str_36 (.r rfl) rfl (fun w hw j u hu => hw.cell (rdD hr hk j u hu))) rfl ?_
      refine WO.al zer_36 rfl fun g1 => ?_
      refine WO.val (.asg (.r rfl)) rfl ?_
      refine WO.stW (k := 0) str_36 rfl rfl rfl rfl rfl rfl (by repeat constructor) ?_
      refine WO.nil ?_
      refine KQ.seq ?_
      refine WC.seq ?_
      refine WC.seq ?_
      refine WC.region ?_
      refine WO.val (.mv (.r rfl)) rfl ?_
      refine WO.val (.bin (.r rfl) (.r rfl) rfl) rfl ?_
      refine WO.nil ?_
      refine KQ.seq ?_
      refine WC.join (σ := Unit) (fun q => [(3, str (txt (l.take k) ++ spS k)), (5, .pointer (some ⟨g1, 0, none⟩)), (9, .slice (some ad) l.length c), (10, .int .i64 (l.length : Nat)), (11, .int .i64 (k : Nat))]) (fun q => [.blk g1 (.cells (cPart (l.getD k p0)).toArray 36 (0, 0))]) ?_ ?_
      · refine WC.cond rfl (fun k17 => ?_) (fun k17 => ?_)
        · refine WC.region ?_
          refine WO.val (.mv (.r rfl)) rfl ?_
          refine WO.val (.addS (.r rfl) (.r rfl) (by have := txt_len hG k (by omega); simp; omega)) rfl ?_
          refine WO.val (.asg (.r rfl)) rfl ?_
          refine WO.nil ?_
          refine KQ.mid (()) (by rw [spS_t k17]; exact ⟨rfl, rfl, rfl, rfl, rfl, trivial⟩) (fun w hw => hw)
        · refine WC.skip ?_
          refine KQ.mid (()) (by rw [spS_f k17, List.append_nil]; exact ⟨rfl, rfl, rfl, rfl, rfl, trivial⟩) (fun w hw => hw)
      · intro _
        refine WC.block ?_
        refine WC.seq ?_
        refine WC.region ?_
        refine WO.val (.faL fld_36_0 (.r rfl) rfl) rfl ?_
        refine WO.val (.ldB (k := 0) one_3 (.r rfl) rfl rfl) rfl ?_
        refine WO.val (.bin (.r rfl) (.r rfl) rfl) rfl ?_
        refine WO.val (.asg (.r rfl)) rfl ?_
        refine WO.nil ?_
        refine KQ.seq ?_
        refine WC.cond rfl (fun k26 => ?_) (fun k26 => ?_)
        · refine WC.region ?_
          refine WO.val (.mv (.r rfl)) rfl ?_
          refine WO.val (.faL fld_36_0 (.r rfl) rfl) rfl ?_
          refine WO.val (.ldB (k := 0) one_3 (.r rfl) rfl rfl) rfl ?_
          refine WO.callS rfl ent_43 rfl (fun w hw => l1numI (l.getD k p0).keep (by omega) (by omega) w) ?_
          refine WO.val (.addS (.r rfl) (.r rfl) (a := [61]) (by have := itoa_len (n := (l.getD k p0).keep) (by omega) (by omega); simp [-List.getD_eq_getElem?_getD]; omega)) rfl ?_
          refine WO.val (.addS (.r rfl) (.r rfl) (by rw [List.singleton_append, ← partS_1 k26, List.length_append]; omega)) rfl ?_
          refine WO.val (.asg (.r rfl)) rfl ?_
          refine WO.nil ?_
          refine KQ.blockN (KQ.blockN (KQ.seq ?_))
          refine WC.region ?_
          refine WO.val (.bin (.r rfl) (.r rfl) (pb_inc (by omega))) rfl ?_
          refine WO.val (.mv (.r rfl)) rfl ?_
          refine WO.nil ?_
          refine KQ.again (k + 1) (by omega) (by rw [txt_take hk, partS_1 k26]; exact ⟨rfl, rfl, rfl, rfl, trivial⟩) (fun w hw => hw.none)
        · refine WC.seq ?_
          refine WC.region ?_
          refine WO.val (.faL fld_36_1 (.r rfl) rfl) rfl ?_
          refine WO.val (.ldB (k := 0) one_3 (.r rfl) rfl rfl) rfl ?_
          refine WO.val (.bin (.r rfl) (.r rfl) rfl) rfl ?_
          refine WO.val (.asg (.r rfl)) rfl ?_
          refine WO.nil ?_
          refine KQ.seq ?_
          refine WC.cond rfl (fun k36 => ?_) (fun k36 => ?_)
          · refine WC.region ?_
            refine WO.val (.mv (.r rfl)) rfl ?_
            refine WO.val (.faL fld_36_1 (.r rfl) rfl) rfl ?_
            refine WO.val (.ldB (k := 0) one_3 (.r rfl) rfl rfl) rfl ?_
            refine WO.callS rfl ent_43 rfl (fun w hw => l1numI (l.getD k p0).drop (by omega) (by omega) w) ?_
            refine WO.val (.addS (.r rfl) (.r rfl) (a := [45]) (by have := itoa_len (n := (l.getD k p0).drop) (by omega) (by omega); simp [-List.getD_eq_getElem?_getD]; omega)) rfl ?_
            refine WO.val (.addS (.r rfl) (.r rfl) (by rw [List.singleton_append, ← partS_2 k26 k36, List.length_append]; omega)) rfl ?_
            refine WO.val (.asg (.r rfl)) rfl ?_
            refine WO.nil ?_
            refine KQ.blockN (KQ.blockN (KQ.seq ?_))
            refine WC.region ?_
            refine WO.val (.bin (.r rfl) (.r rfl) (pb_inc (by omega))) rfl ?_
            refine WO.val (.mv (.r rfl)) rfl ?_
            refine WO.nil ?_
            refine KQ.again (k + 1) (by omega) (by rw [txt_take hk, partS_2 k26 k36]; exact ⟨rfl, rfl, rfl, rfl, trivial⟩) (fun w hw => hw.none)
          · refine WC.region ?_
            refine WO.val (.mv (.r rfl)) rfl ?_
            refine WO.val (.faL fld_36_2 (.r rfl) rfl) rfl ?_
            refine WO.val (.ldB (k := 0) one_9 (.r rfl) rfl rfl) rfl ?_
            refine WO.callS rfl ent_44 rfl (fun w hw => toldC (l.getD k p0).put (by omega) w) ?_
            refine WO.val (.addS (.r rfl) (.r rfl) (a := [43]) (by have := codedL_len (l.getD k p0).put; simp [-List.getD_eq_getElem?_getD]; omega)) rfl ?_
            refine WO.val (.addS (.r rfl) (.r rfl) (by rw [List.singleton_append, ← partS_3 k26 k36, List.length_append]; omega)) rfl ?_
            refine WO.val (.asg (.r rfl)) rfl ?_
            refine WO.nil ?_
            refine KQ.blockN (KQ.blockN (KQ.seq ?_))
            refine WC.region ?_
            refine WO.val (.bin (.r rfl) (.r rfl) (pb_inc (by omega))) rfl ?_
            refine WO.val (.mv (.r rfl)) rfl ?_
            refine WO.nil ?_
            refine KQ.again (k + 1) (by omega) (by rw [txt_take hk, partS_3 k26 k36]; exact ⟨rfl, rfl, rfl, rfl, trivial⟩) (fun w hw => hw.none)
    · refine WC.exit ?_
      refine KQ.thenX (KQ.thenX (KQ.blockX (KQ.seq ?_)))
      refine WC.seq ?_
      refine WC.region ?_
      refine WO.val (.mv (.r rfl)) rfl ?_
      refine WO.val (.asg (.r rfl)) rfl ?_
      refine WO.nil ?_
      refine KQ.seq ?_
      refine WC.ret ?_
      exact KQ.fin rfl (.tmp rfl .nil) (fun w hw => ⟨(), by rw [chT, if_neg (by rw [k8]; decide), show txt l = txt (l.take k) from by rw [List.take_of_length_le (ge_of_dec k12)]]; rfl, hw⟩)
/-! spec.ChangeText -/
theorem spTextC (l : List Part) (A : Option Addr) (c : Nat) (w : World) (hr : RdL (hp w) rPart A l) (hl : l.length ≤ 1048576) : CV Tryd.prog 12 [.slice A l.length c] w (.tuple #[str (if good l = true then chT l else []), .bool (good l)]) := by
  refine CV.of ?_
  refine enter Tryd.func12 rfl rfl rfl (Sat.start w) ?_
  simp only [mkL]
  refine WC.seq ?_
  refine WC.region ?_
  refine WO.val (.asg (.r rfl)) rfl ?_
  refine WO.val (.asg (.r rfl)) rfl ?_
  refine WO.nil ?_
  refine KQ.seq ?_
  refine WC.seq ?_
  refine WC.seq ?_
  refine WC.region ?_
  refine WO.val (.mv (.r rfl)) rfl ?_
  refine WO.callS rfl ent_17 rfl (fun w hw => specGood l A c w (hr.mono hw.old) (by omega)) ?_
  refine WO.val (.nt (.r rfl)) rfl ?_
  refine WO.nil ?_
  refine KQ.seq ?_
  refine WC.cond rfl (fun c1 => ?_) (fun c1 => ?_)
  · refine WC.seq ?_
    refine WC.region ?_
    refine WO.val (.asg (.r rfl)) rfl ?_
    refine WO.val (.asg (.r rfl)) rfl ?_
    refine WO.nil ?_
    refine KQ.seq ?_
    refine WC.ret ?_
    exact KQ.thenR (KQ.fin rfl (.tmp rfl (.tmp rfl .nil)) (fun w hw => ⟨(), by rw [show good l = false from by simpa using c1]; rfl, hw⟩))
  · refine WC.skip ?_
    refine KQ.seq ?_
    refine WC.seq ?_
    refine WC.region ?_
    refine WO.val (.mv (.r rfl)) rfl ?_
    refine WO.callS rfl ent_26 rfl (fun w hw => spChangeC l A c w (hr.mono hw.old) hl (fun p hp => (gspec_small l none 0 0 (show good l = true from by simpa using c1) p hp).1)) ?_
    refine WO.val (.asg (.r rfl)) rfl ?_
    refine WO.val (.asg (.r rfl)) rfl ?_
    refine WO.nil ?_
    refine KQ.seq ?_
    refine WC.ret ?_
    exact KQ.fin rfl (.tmp rfl (.tmp rfl .nil)) (fun w hw => ⟨(), by rw [show good l = true from by simpa using c1]; rfl, hw⟩)
end Go.Proofs.YtfnaplhjkapghaaDoor
