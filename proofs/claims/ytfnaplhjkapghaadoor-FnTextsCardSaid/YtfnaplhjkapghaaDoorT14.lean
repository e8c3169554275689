/- A part of the proofs of this seat: contracts of the functions that its statements reach. -/
import Derived.Test.YtfnaplhjkapghaaDoorT13
import Derived.Test.YtfnaplhjkapghaaDoorProg
set_option linter.unusedVariables false
set_option linter.unusedSimpArgs false
set_option maxRecDepth 4000
namespace Go.Proofs.YtfnaplhjkapghaaDoor
open Go Go.RowKit Go.Proofs.YtfnaplhjkapghaaDoor.Sp
theorem ent_22 : Ent Tryd.prog 22 := ent_of Tryd.prog Tryd.func22 rfl rfl

theorem take_next {α : Type} {l m : List α} {k : Nat} (hp : l.take k = m.take k) (h1 : k < l.length) (h2 : k < m.length) (he : l[k] = m[k]) : l.take (k + 1) = m.take (k + 1) := by
  rw [List.take_succ_eq_append_getElem h1, List.take_succ_eq_append_getElem h2, hp, he]
theorem take_all {α : Type} {l m : List α} {k : Nat} (hp : l.take k = m.take k) (hl : l.length = m.length) (hk : l.length ≤ k) : l = m := by
  rw [List.take_of_length_le hk, List.take_of_length_le (by omega)] at hp; exact hp

/-! laws.eqPart -/
theorem eqPart_calls (x y : Part) (w : World) : CV Tryd.prog 22 [.agg (cPart x).toArray, .agg (cPart y).toArray] w (.bool (decide (x = y))) := by
  refine CV.of ?_
  refine enter Tryd.func22 rfl rfl rfl (Sat.start w) ?_
  simp only [mkL]
  refine WC.seq ?_
  refine WC.region ?_
  refine WO.bx rfl rfl rfl fun g1 => ?_
  refine WO.bx rfl rfl rfl fun g2 => ?_
  refine WO.val (.asg (.r rfl)) rfl ?_
  refine WO.nil ?_
  refine KQ.seq ?_
  refine WC.seq ?_
  refine WC.seq ?_
  refine WC.region ?_
  refine WO.val (.faL fld_36_0 (.r rfl) rfl) rfl ?_
  refine WO.val (.ldB (k := 1) one_3 (.r rfl) rfl rfl) rfl ?_
  refine WO.val (.faL fld_36_0 (.r rfl) rfl) rfl ?_
  refine WO.val (.ldB (k := 0) one_3 (.r rfl) rfl rfl) rfl ?_
  refine WO.val (.bin (.r rfl) (.r rfl) rfl) rfl ?_
  refine WO.nil ?_
  refine KQ.seq ?_
  refine WC.cond rfl (fun c1 => ?_) (fun c1 => ?_)
  · refine WC.seq ?_
    refine WC.region ?_
    refine WO.val (.asg (.r rfl)) rfl ?_
    refine WO.nil ?_
    refine KQ.seq ?_
    refine WC.ret ?_
    exact KQ.thenR (KQ.fin rfl (.tmp rfl .nil) (fun w hw => ⟨(), by rw [show decide (x = y) = false from decide_eq_false (by rintro rfl; simp at c1)]; rfl, hw.none⟩))
  · refine WC.skip ?_
    refine KQ.seq ?_
    refine WC.seq ?_
    refine WC.seq ?_
    refine WC.region ?_
    refine WO.val (.faL fld_36_1 (.r rfl) rfl) rfl ?_
    refine WO.val (.ldB (k := 1) one_3 (.r rfl) rfl rfl) rfl ?_
    refine WO.val (.faL fld_36_1 (.r rfl) rfl) rfl ?_
    refine WO.val (.ldB (k := 0) one_3 (.r rfl) rfl rfl) rfl ?_
    refine WO.val (.bin (.r rfl) (.r rfl) rfl) rfl ?_
    refine WO.nil ?_
    refine KQ.seq ?_
    refine WC.cond rfl (fun c2 => ?_) (fun c2 => ?_)
    · refine WC.seq ?_
      refine WC.region ?_
      refine WO.val (.asg (.r rfl)) rfl ?_
      refine WO.nil ?_
      refine KQ.seq ?_
      refine WC.ret ?_
      exact KQ.thenR (KQ.fin rfl (.tmp rfl .nil) (fun w hw => ⟨(), by rw [show decide (x = y) = false from decide_eq_false (by rintro rfl; simp at c2)]; rfl, hw.none⟩))
    · refine WC.skip ?_
      refine KQ.seq ?_
      refine WC.seq ?_
      refine WC.seq ?_
      refine WC.region ?_
      refine WO.val (.faL fld_36_2 (.r rfl) rfl) rfl ?_
      refine WO.val (.ldB (k := 1) one_9 (.r rfl) rfl rfl) rfl ?_
      refine WO.val (.faL fld_36_2 (.r rfl) rfl) rfl ?_
      refine WO.val (.ldB (k := 0) one_9 (.r rfl) rfl rfl) rfl ?_
      refine WO.val (.neS (.r rfl) (.r rfl)) rfl ?_
      refine WO.nil ?_
      refine KQ.seq ?_
      refine WC.cond rfl (fun c3 => ?_) (fun c3 => ?_)
      · refine WC.seq ?_
        refine WC.region ?_
        refine WO.val (.asg (.r rfl)) rfl ?_
        refine WO.nil ?_
        refine KQ.seq ?_
        refine WC.ret ?_
        exact KQ.thenR (KQ.fin rfl (.tmp rfl .nil) (fun w hw => ⟨(), by rw [show decide (x = y) = false from decide_eq_false (by rintro rfl; simp at c3)]; rfl, hw.none⟩))
      · refine WC.skip ?_
        refine KQ.seq ?_
        refine WC.seq ?_
        refine WC.region ?_
        refine WO.val (.asg (.r rfl)) rfl ?_
        refine WO.nil ?_
        refine KQ.seq ?_
        refine WC.ret ?_
        exact KQ.fin rfl (.tmp rfl .nil) (fun w hw => ⟨(), by rw [show decide (x = y) = true from decide_eq_true (by cases x; cases y; simp at c1 c2 c3; simp_all)]; rfl, hw.none⟩)
/-! laws.eqPartS -/
theorem eqPartS_calls (l m : List Part) (A B : Option Addr) (c e : Nat) (w : World) (hr : RdL (hp w) rPart A l) (hq : RdL (hp w) rPart B m) (hl : l.length ≤ maxLen) :
    CV Tryd.prog 7 [.slice A l.length c, .slice B m.length e] w (.bool (decide (l = m))) := by
  rw [maxLen_eq] at hl
  refine CV.of ?_
  refine enter Tryd.func7 rfl rfl rfl (Sat.start w) ?_
  simp only [mkL]
  refine WC.seq ?_
  refine WC.region ?_
  refine WO.val (.asg (.r rfl)) rfl ?_
  refine WO.nil ?_
  refine KQ.seq ?_
  refine WC.seq ?_
  refine WC.seq ?_
  refine WC.region ?_
  refine WO.val (.mv (.r rfl)) rfl ?_
  refine WO.val (.len sli_22 (.r rfl)) rfl ?_
  refine WO.val (.mv (.r rfl)) rfl ?_
  refine WO.val (.len sli_22 (.r rfl)) rfl ?_
  refine WO.val (.bin (.r rfl) (.r rfl) rfl) rfl ?_
  refine WO.nil ?_
  refine KQ.seq ?_
  refine WC.cond rfl (fun c1 => ?_) (fun c1 => ?_)
  · refine WC.seq ?_
    refine WC.region ?_
    refine WO.val (.asg (.r rfl)) rfl ?_
    refine WO.nil ?_
    refine KQ.seq ?_
    refine WC.ret ?_
    exact KQ.thenR (KQ.fin rfl (.tmp rfl .nil) (fun w hw => ⟨(), by rw [show decide (l = m) = false from by simp at c1 ⊢; rintro rfl; exact c1 rfl]; rfl, hw⟩))
  · have hlen : l.length = m.length := by simp at c1; omega
    refine WC.skip ?_
    refine KQ.seq ?_
    refine WC.seq ?_
    refine WC.seq ?_
    refine WC.region ?_
    refine WO.val (.asg (.r rfl)) rfl ?_
    refine WO.nil ?_
    refine KQ.seq ?_
    refine WC.block ?_
    refine WC.loop (σ := {k : Nat // l.take k = m.take k}) (fun s => [(0, .slice A l.length c), (1, .slice B m.length e), (5, .int .i64 (s.1 : Nat))]) (fun s => []) (fun s => l.length - s.1) (⟨0, rfl⟩) (by exact ⟨rfl, rfl, rfl, trivial⟩) (fun w hw => hw) ?_
    rintro ⟨k, hp⟩
    dsimp only
    refine WC.seq ?_
    refine WC.seq ?_
    refine WC.region ?_
    refine WO.val (.mv (.r rfl)) rfl ?_
    refine WO.val (.mv (.r rfl)) rfl ?_
    refine WO.val (.len sli_22 (.r rfl)) rfl ?_
    refine WO.val (.bin (.r rfl) (.r rfl) rfl) rfl ?_
    refine WO.nil ?_
    refine KQ.seq ?_
    refine WC.cond rfl (fun c2 => ?_) (fun c2 => ?_)
    · have hk := lt_of_dec c2
      have hk2 : k < m.length := by omega
      obtain ⟨ad, rfl, cs, rfl, hcell⟩ := hr k hk
      obtain ⟨ad2, rfl, cs2, rfl, hcell2⟩ := hq k hk2
      refine WC.skip ?_
      refine KQ.seq ?_
      refine WC.seq ?_
      refine WC.block ?_
      refine WC.seq ?_
      refine WC.quiet (by kernel_rfl) (by kernel_rfl) ?_
      refine WQ.val (.mv (.r rfl)) rfl ?_
      refine WQ.val (.mv (.r rfl)) rfl ?_
      refine WQ.val (.ixn sli_22 (.r rfl) (.r rfl) hk) rfl ?_
      refine WQ.val (.ldS (cs := cPart l[k]) str_36 (.r rfl) rfl (fun w hw j u hu => hw.cell (hcell j u hu))) rfl ?_
      refine WQ.val (.mv (.r rfl)) rfl ?_
      refine WQ.val (.mv (.r rfl)) rfl ?_
      refine WQ.val (.ixn sli_22 (.r rfl) (.r rfl) (by omega)) rfl ?_
      refine WQ.val (.ldS (cs := cPart m[k]) str_36 (.r rfl) rfl (fun w hw j u hu => hw.cell (hcell2 j u hu))) rfl ?_
      refine WQ.callV rfl ent_22 rfl (fun w hw => eqPart_calls l[k] m[k] w) ?_
      refine WQ.val (.nt (.r rfl)) rfl ?_
      refine WQ.nil ?_
      refine KQ.seq ?_
      refine WC.cond rfl (fun c3 => ?_) (fun c3 => ?_)
      · refine WC.seq ?_
        refine WC.region ?_
        refine WO.val (.asg (.r rfl)) rfl ?_
        refine WO.nil ?_
        refine KQ.seq ?_
        refine WC.ret ?_
        exact KQ.blockR (KQ.thenR (KQ.thenR (KQ.blockR (KQ.thenR (KQ.fin rfl (.tmp rfl .nil) (fun w hw => ⟨(), by rw [show decide (l = m) = false from by simp at c3 ⊢; rintro rfl; exact c3 rfl]; rfl, hw⟩))))))
      · refine WC.skip ?_
        refine KQ.blockN (KQ.seq ?_)
        refine WC.region ?_
        refine WO.val (.mv (.r rfl)) rfl ?_
        refine WO.val (.bin (.r rfl) (.r rfl) (pb_inc (by omega))) rfl ?_
        refine WO.val (.asg (.r rfl)) rfl ?_
        refine WO.nil ?_
        refine KQ.again (⟨k + 1, take_next hp hk hk2 (by simpa using c3)⟩) (by dsimp only; omega) (by exact ⟨rfl, rfl, rfl, trivial⟩) (fun w hw => hw)
    · refine WC.exit ?_
      refine KQ.thenX (KQ.thenX (KQ.blockX (KQ.seq ?_)))
      refine WC.seq ?_
      refine WC.region ?_
      refine WO.val (.asg (.r rfl)) rfl ?_
      refine WO.nil ?_
      refine KQ.seq ?_
      refine WC.ret ?_
      exact KQ.fin rfl (.tmp rfl .nil) (fun w hw => ⟨(), by rw [show decide (l = m) = true from by simp; exact take_all hp hlen (ge_of_dec c2)]; rfl, hw⟩)

/-! the plain law: both readings agree -/
theorem kind0_keep {n : Int} (h : ¬ n > 0) : (kindP ⟨n, 0, []⟩ == 0) = true := by
  have h1 : k1 ⟨n, 0, []⟩ = false := by unfold k1; simp; omega
  have h2 : k2 ⟨n, 0, []⟩ = false := by unfold k2; simp
  have h3 : k3 ⟨n, 0, []⟩ = false := by unfold k3; simp
  unfold kindP; rw [h1, h2, h3]; rfl
theorem kind0_drop {n : Int} (h : ¬ n > 0) : (kindP ⟨0, n, []⟩ == 0) = true := by
  have h1 : k1 ⟨0, n, []⟩ = false := by unfold k1; simp
  have h2 : k2 ⟨0, n, []⟩ = false := by unfold k2; simp; omega
  have h3 : k3 ⟨0, n, []⟩ = false := by unfold k3; simp
  unfold kindP; rw [h1, h2, h3]; rfl
theorem good_kinds {ps : List Part} (h : good ps = true) : ∀ p ∈ ps, (kindP p == 0) = false := by
  rw [good, good_split ps none 0 0 (by decide), Bool.and_eq_true] at h
  exact ks_all ps none h.1
theorem rd_both {f g : List UInt8 → Option Part} (F G : List (List UInt8) → Option (List Part)) (hF0 : F [] = some []) (hF : ∀ w ws, F (w :: ws) = match f w with | none => none | some p => (F ws).map (p :: ·))
    (hG0 : G [] = some []) (hG : ∀ w ws, G (w :: ws) = match g w with | none => none | some p => (G ws).map (p :: ·))
    (hfg : ∀ w p, f w = some p → (kindP p == 0) = false → g w = some p) : ∀ ws ps, F ws = some ps → (∀ p ∈ ps, (kindP p == 0) = false) → G ws = some ps
  | [], ps, h, _ => by rw [hF0] at h; rw [hG0]; exact h
  | w :: ws, ps, h, hk => by
    rw [hF] at h
    cases hw : f w with
    | none => rw [hw] at h; cases h
    | some p =>
      rw [hw] at h
      cases hr : F ws with
      | none => rw [hr] at h; cases h
      | some qs =>
        rw [hr] at h; cases h
        rw [hG, hfg w p hw (hk p (by simp)), rd_both F G hF0 hF hG0 hG hfg ws qs hr (fun q hq => hk q (by simp [hq]))]; rfl
theorem nandN {a b : Bool} (h : ¬ a = true) : ¬ (a && b) = true := by cases a <;> simp_all
theorem nandF {a b : Bool} (h : ¬ a = true) : (a && b) = false := by cases a <;> simp_all
theorem read_same (hUD : ∀ s t, untold s = some t ↔ (decOk s = true ∧ decI s = some t)) (s : List UInt8) : readI s = readT s := by
  have hnil : decI [] = some [] := rfl
  have h1 : ∀ w p, rd1 w = some p → (kindP p == 0) = false → rdI w = some p := fun w p h hk => by
    unfold rd1 at h
    split at h
    · cases h
    · rename_i hl
      have hne : (w == []) = false := by cases w with | nil => simp at hl | cons x r => rfl
      split at h
      · rename_i h61
        cases h
        by_cases hn : num4 (w.drop 1) > 0
        · rw [rdI, if_neg (by rw [hne]; decide), if_pos (by rw [h61]; simpa using hn)]
        · rw [kind0_keep hn] at hk; cases hk
      · rename_i h61
        split at h
        · rename_i h45
          cases h
          by_cases hn : num4 (w.drop 1) > 0
          · rw [rdI, if_neg (by rw [hne]; decide), if_neg (nandN h61), if_pos (by rw [h45]; simpa using hn)]
          · rw [kind0_drop hn] at hk; cases hk
        · rename_i h45
          split at h
          · rename_i h43
            cases hu : untold (w.drop 1) with
            | none => rw [hu] at h; cases h
            | some t =>
              rw [hu] at h; cases h
              obtain ⟨ho, hd⟩ := (hUD _ _).1 hu
              rw [i_c hne (nandF h61) (nandF h45) h43, if_pos ho, hd]; rfl
          · cases h
  have h2 : ∀ w p, rdI w = some p → (kindP p == 0) = false → rd1 w = some p := fun w p h hk => by
    unfold rdI at h
    split at h
    · cases h
    · rename_i hne
      have hlen : ∀ (x : Int), num4 (w.drop 1) > 0 → ¬ ((w.length : Int) < 2) := fun _ hn hl => by
        have e : w.drop 1 = [] := List.drop_of_length_le (by omega)
        rw [e] at hn; exact absurd hn (by decide)
      split at h
      · rename_i h61
        rw [Bool.and_eq_true, decide_eq_true_eq] at h61
        cases h
        exact r_a (by simpa using hlen 0 h61.2) h61.1
      · split at h
        · rename_i h61 h45
          rw [Bool.and_eq_true, decide_eq_true_eq] at h45
          cases h
          refine r_b (by simpa using hlen 0 h45.2) ?_ h45.1
          have e := h45.1
          simp only [beq_iff_eq] at e
          simp only [beq_eq_false_iff_ne, ne_eq]; omega
        · split at h
          · rename_i h61 h45 h43
            split at h
            · rename_i ho
              cases h
              have e := h43
              simp only [beq_iff_eq] at e
              have n61 : (((w.getD 0 0).toNat : Int) == 61) = false := by simp only [beq_eq_false_iff_ne, ne_eq]; omega
              have n45 : (((w.getD 0 0).toNat : Int) == 45) = false := by simp only [beq_eq_false_iff_ne, ne_eq]; omega
              by_cases hl : (w.length : Int) < 2
              · exfalso
                have e2 : w.drop 1 = [] := List.drop_of_length_le (by omega)
                rw [e2, hnil] at hk
                exact absurd hk (by decide)
              · rw [r_c (by simpa using hl) n61 n45 h43]
                cases hd : decI (w.drop 1) with
                | none => unfold decOk at ho; rw [hd] at ho; cases ho
                | some t => rw [(hUD _ _).2 ⟨ho, hd⟩]; rfl
            · cases h
          · cases h
  unfold readI readT
  split
  · rfl
  · cases ha : rdAllI (splitOn 32 s) with
    | none =>
      cases hb : rdAll (splitOn 32 s) with
      | none => rfl
      | some ps =>
        dsimp only
        split
        · rename_i hg
          have := rd_both rdAll rdAllI rfl (fun _ _ => rfl) rfl (fun _ _ => rfl) h1 _ ps hb (good_kinds hg)
          rw [ha] at this; cases this
        · rfl
    | some ps =>
      dsimp only
      by_cases hg : good ps = true
      · rw [if_pos hg, rd_both rdAllI rdAll rfl (fun _ _ => rfl) rfl (fun _ _ => rfl) h2 _ ps ha (good_kinds hg)]
        dsimp only; rw [if_pos hg]
      · rw [if_neg hg]
        cases hb : rdAll (splitOn 32 s) with
        | none => rfl
        | some qs =>
          dsimp only
          split
          · rename_i hgq
            have := rd_both rdAll rdAllI rfl (fun _ _ => rfl) rfl (fun _ _ => rfl) h1 _ qs hb (good_kinds hgq)
            rw [ha] at this; cases this
            exact absurd hgq hg
          · rfl

end Go.Proofs.YtfnaplhjkapghaaDoor
