/- A part of the proofs of this seat: contracts of the functions that its statements reach. -/
import Derived.Test.YtfnaplhjkapghaaDoorT29
import Derived.Test.YtfnaplhjkapghaaDoorProg
set_option linter.unusedVariables false
set_option linter.unusedSimpArgs false
set_option maxRecDepth 4000
namespace Go.Proofs.YtfnaplhjkapghaaDoor
open Go Go.RowKit Go.Proofs.YtfnaplhjkapghaaDoor.Sp


theorem dval_dd (u : Nat) : dval (Lib.decDigits u) = (u : Int) := by
  induction u using Nat.strongRecOn with
  | _ u ih =>
    by_cases h : u < 10
    · rw [dd_small h]
      have : (UInt8.ofNat (48 + u)).toNat = 48 + u := by rw [UInt8.toNat_ofNat']; omega
      simp only [dval, List.foldl_cons, List.foldl_nil, this]; omega
    · rw [dd_big h, dval_snoc, ih (u / 10) (by omega)]
      have : (UInt8.ofNat (48 + u % 10)).toNat = 48 + u % 10 := by rw [UInt8.toNat_ofNat']; omega
      rw [this]; omega
theorem num4_itoa {n : Int} (h0 : 0 < n) (h1 : n ≤ 120) : num4 (Lib.itoa n) = n := by
  rw [itoa_nn (by omega)]
  have hl := dd_len 2 n.toNat (by omega)
  obtain ⟨c, r, e, hc⟩ := digits_head n.toNat (by omega)
  unfold num4
  rw [if_neg, if_pos (digits_all _), dval_dd]; omega
  unfold bad4
  rw [e] at hl ⊢
  have : ((c.toNat : Int) == 48) = false := by
    simp only [beq_eq_false_iff_ne, ne_eq]
    intro h; exact hc (UInt8.toNat_inj.1 (by have h48 : (48 : UInt8).toNat = 48 := rfl; omega))
  simp only [List.getD_cons_zero, this, Bool.false_and, Bool.or_false, Bool.or_eq_true, decide_eq_true_eq, not_or]
  simp at hl ⊢; omega
theorem itoa_ne {n : Int} (h : 0 ≤ n) : 1 ≤ (Lib.itoa n).length := by rw [itoa_nn h, Lib.decDigits]; split <;> simp
theorem hex_all : ∀ n : Nat, n < 256 → hexv (hexD.getD (n / 16) 0) = ((n / 16 : Nat) : Int) ∧ hexv (hexD.getD (n % 16) 0) = ((n % 16 : Nat) : Int) := by decide +kernel
theorem untold_codedL : ∀ s : List UInt8, untold (codedL s) = some s
  | [] => rfl
  | b :: r => by
    have ih := untold_codedL r
    have e : codedL (b :: r) = codeB b ++ codedL r := rfl
    rw [e]
    by_cases hp : plain b = true
    · rw [codeB, if_pos hp, List.singleton_append, untold_cons, if_pos hp, ih]; rfl
    · rw [codeB, if_neg hp, List.cons_append, List.cons_append, List.cons_append, List.nil_append, untold_cons, if_neg (by decide)]
      obtain ⟨h1, h2⟩ := hex_all b.toNat b.toNat_lt
      have hb := b.toNat_lt
      simp only [h1, h2]
      have e2 : UInt8.ofNat (16 * ((b.toNat / 16 : Nat) : Int) + ((b.toNat % 16 : Nat) : Int)).toNat = b := by
        have : (16 * ((b.toNat / 16 : Nat) : Int) + ((b.toNat % 16 : Nat) : Int)).toNat = b.toNat := by omega
        rw [this]; simp
      rw [if_neg (by simp <;> omega), e2, if_neg hp, ih]; rfl
theorem no32_dd (u : Nat) : ∀ b ∈ Lib.decDigits u, ((b.toNat : Int) == 32) = false := by
  intro b hb
  have := List.all_eq_true.1 (digits_all u) b hb
  have := (dig_iff b).1 this
  simp only [beq_eq_false_iff_ne, ne_eq]; omega
theorem hexd_all : ∀ n : Nat, n < 256 → (((hexD.getD (n / 16) 0).toNat : Int) == 32) = false ∧ (((hexD.getD (n % 16) 0).toNat : Int) == 32) = false := by decide +kernel
theorem no32_coded (s : List UInt8) : ∀ b ∈ codedL s, ((b.toNat : Int) == 32) = false := by
  intro b hb
  obtain ⟨x, _, hx⟩ := List.mem_flatMap.1 hb
  unfold codeB at hx
  split at hx
  · rename_i hp
    obtain rfl := List.mem_singleton.1 hx
    unfold plain at hp
    simp only [beq_eq_false_iff_ne, ne_eq]
    intro h; simp at hp; omega
  · simp only [List.mem_cons, List.not_mem_nil, or_false] at hx
    obtain ⟨h1, h2⟩ := hexd_all x.toNat x.toNat_lt
    rcases hx with rfl | rfl | rfl
    · decide
    · exact h1
    · exact h2
theorem no32_part {p : Part} (h : smallP p) : ∀ b ∈ partS p, ((b.toNat : Int) == 32) = false := by
  unfold partS
  unfold smallP at h
  split
  · intro b hb
    rcases List.mem_cons.1 hb with rfl | hb
    · decide
    · rw [itoa_nn (by omega)] at hb; exact no32_dd _ b hb
  · split
    · intro b hb
      rcases List.mem_cons.1 hb with rfl | hb
      · decide
      · rw [itoa_nn (by omega)] at hb; exact no32_dd _ b hb
    · intro b hb
      rcases List.mem_cons.1 hb with rfl | hb
      · decide
      · exact no32_coded _ b hb
theorem split_word : ∀ (w : List UInt8), (∀ b ∈ w, ((b.toNat : Int) == 32) = false) → splitOn 32 w = [w]
  | [], _ => rfl
  | x :: r, h => by
    rw [splitOn_cons, if_neg (by rw [show ((x.toNat : Int) == ((32 : UInt8).toNat : Int)) = false from h x (List.mem_cons_self ..)]; decide), split_word r fun b hb => h b (List.mem_cons_of_mem _ hb)]; rfl
theorem split_more : ∀ (w s : List UInt8), (∀ b ∈ w, ((b.toNat : Int) == 32) = false) → splitOn 32 (w ++ 32 :: s) = w :: splitOn 32 s
  | [], s, _ => by rw [List.nil_append, splitOn_cons, if_pos (by decide)]
  | x :: r, s, h => by
    rw [List.cons_append, splitOn_cons, if_neg (by rw [show ((x.toNat : Int) == ((32 : UInt8).toNat : Int)) = false from h x (List.mem_cons_self ..)]; decide), split_more r s fun b hb => h b (List.mem_cons_of_mem _ hb)]; rfl
theorem split_join : ∀ (ws : List (List UInt8)), ws ≠ [] → (∀ w ∈ ws, ∀ b ∈ w, ((b.toNat : Int) == 32) = false) → splitOn 32 (Lib.join ws [32]) = ws
  | [], h, _ => absurd rfl h
  | [w], _, h => by rw [Lib.join_one]; exact split_word w (h w (List.mem_cons_self ..))
  | w :: v :: r, _, h => by
    have ih := split_join (v :: r) (by simp) fun x hx => h x (List.mem_cons_of_mem _ hx)
    have e : Lib.join (w :: v :: r) [32] = w ++ 32 :: Lib.join (v :: r) [32] := by
      rw [Lib.join_cons, Lib.join_cons]; simp [Lib.joinTail]
    rw [e, split_more w _ (h w (List.mem_cons_self ..)), ih]
theorem rd1_part {p : Part} (h : smallP p) (hk : (kindP p == 0) = false) : rd1 (partS p) = some p := by
  unfold smallP at h
  by_cases c1 : (kindP p == 1) = true
  · have hk1 : k1 p = true := by
      unfold kindP at c1; by_cases c : k1 p = true
      · exact c
      · rw [if_neg c] at c1; split at c1; cases c1; split at c1; cases c1; cases c1
    have h1 := kind_1 c1
    unfold k1 at hk1
    simp at hk1
    rw [partS_1 h1]
    have := itoa_ne (n := p.keep) (by omega)
    rw [r_a (by simp; omega) (by simp), List.drop_one, List.tail_cons, num4_itoa (by omega) (by omega)]
    cases p; simp_all
  · by_cases c2 : (kindP p == 2) = true
    · have hk2 : k2 p = true := by
        unfold kindP at c2; by_cases c : k1 p = true
        · rw [if_pos c] at c2; cases c2
        · rw [if_neg c] at c2; by_cases c' : k2 p = true
          · exact c'
          · rw [if_neg c'] at c2; split at c2; cases c2; cases c2
      have h1 := kind_2 c2
      unfold k2 at hk2
      simp at hk2
      rw [partS_2 h1.1 h1.2]
      have := itoa_ne (n := p.drop) (by omega)
      rw [r_b (by simp; omega) (by simp) (by simp), List.drop_one, List.tail_cons, num4_itoa (by omega) (by omega)]
      cases p; simp_all
    · obtain ⟨h3, h4, h5⟩ := kind_3 hk (by simpa using c1) (by simpa using c2)
      unfold k3 at h3
      simp at h3
      rw [partS_3 h4 h5]
      have hl : 1 ≤ (codedL p.put).length := by
        cases hp : p.put with
        | nil => exact absurd hp h3.2
        | cons b r =>
          have e : codedL (b :: r) = codeB b ++ codedL r := rfl
          rw [e, List.length_append]; unfold codeB; split <;> simp <;> omega
      rw [r_c (by simp; omega) (by simp) (by simp) (by simp), List.drop_one, List.tail_cons, untold_codedL]
      cases p; simp_all
theorem rdAll_parts : ∀ (l : List Part), (∀ p ∈ l, smallP p ∧ (kindP p == 0) = false) → rdAll (l.map partS) = some l
  | [], _ => rfl
  | p :: r, h => by
    rw [List.map_cons, rdAll, rd1_part (h p (List.mem_cons_self ..)).1 (h p (List.mem_cons_self ..)).2, rdAll_parts r fun q hq => h q (List.mem_cons_of_mem _ hq)]; rfl
theorem partS_hd (p : Part) : ((((partS p).getD 0 0).toNat : Int) == 46) = false ∧ partS p ≠ [] := by
  unfold partS; split
  · exact ⟨by simp, by simp⟩
  · split
    · exact ⟨by simp, by simp⟩
    · exact ⟨by simp, by simp⟩
theorem read_back {l : List Part} (h : good l = true) : readT (chT l) = some l := by
  unfold chT
  cases l with
  | nil => rfl
  | cons p r =>
    rw [if_neg (by simp <;> omega)]
    have hG := gspec_small (p :: r) none 0 0 h
    have hs : splitOn 32 (txt (p :: r)) = (p :: r).map partS := split_join _ (by simp) fun w hw => by
      obtain ⟨q, hq, rfl⟩ := List.mem_map.1 hw
      exact no32_part (hG q hq).1
    have hne : (txt (p :: r) == [46]) = false := by
      obtain ⟨h1, h2⟩ := partS_hd p
      unfold txt
      rw [List.map_cons, Lib.join_cons]
      cases hx : partS p with
      | nil => exact absurd hx h2
      | cons b q =>
        rw [hx] at h1
        simp only [List.getD_cons_zero, beq_eq_false_iff_ne, ne_eq] at h1
        simp only [List.cons_append, beq_eq_false_iff_ne, ne_eq, List.cons.injEq, not_and]
        intro e; subst e; exact absurd rfl h1
    rw [readT, if_neg (by rw [hne]; decide), hs, rdAll_parts _ hG]
    simp only
    rw [if_pos h]

end Go.Proofs.YtfnaplhjkapghaaDoor
