/- A part of the proofs of this seat: contracts of the functions that its statements reach. -/
import Derived.Test.YtfnaplhjkapghaaDoorT14
import Derived.Test.YtfnaplhjkapghaaDoorProg
set_option linter.unusedVariables false
set_option linter.unusedSimpArgs false
set_option maxRecDepth 4000
namespace Go.Proofs.YtfnaplhjkapghaaDoor
open Go Go.RowKit Go.Proofs.YtfnaplhjkapghaaDoor.Sp


theorem all_u8 {p : UInt8 → Bool} (h : ∀ n : Nat, n < 256 → p (UInt8.ofNat n) = true) (b : UInt8) : p b = true := by
  have := h b.toNat b.toNat_lt
  rwa [UInt8.ofNat_toNat] at this
theorem hex_at : ∀ k : Nat, k < 16 → hexv (hexD.getD k 0) = (k : Int) := by decide +kernel
theorem hex_back (x : UInt8) (h : 0 ≤ hexv x) : hexD.getD (hexv x).toNat 0 = x ∧ dN x = hexv x := by
  have := all_u8 (p := fun x => decide (0 ≤ hexv x → hexD.getD (hexv x).toNat 0 = x ∧ dN x = hexv x)) (by decide +kernel) x
  exact of_decide_eq_true this h
theorem plain_ne (b : UInt8) (h : plain b = true) : b.toNat ≠ 37 := by
  have := all_u8 (p := fun b => decide (plain b = true → b.toNat ≠ 37)) (by decide +kernel) b
  exact of_decide_eq_true this h
theorem codedL_cons (b : UInt8) (r : List UInt8) : codedL (b :: r) = codeB b ++ codedL r := rfl
theorem untold_coded : ∀ t : List UInt8, untold (codedL t) = some t
  | [] => rfl
  | b :: r => by
    rw [codedL_cons, codeB]
    by_cases hp : plain b = true
    · rw [if_pos hp, List.singleton_append, untold_cons, if_pos hp, untold_coded r]; rfl
    · have hb := b.toNat_lt
      have h1 := hex_at (b.toNat / 16) (by omega)
      have h2 := hex_at (b.toNat % 16) (by omega)
      rw [if_neg hp]
      show untold (37 :: hexD.getD (b.toNat / 16) 0 :: hexD.getD (b.toNat % 16) 0 :: codedL r) = _
      rw [untold_cons, if_neg (by decide)]
      dsimp only
      rw [h1, h2]
      have e : UInt8.ofNat (16 * ((b.toNat / 16 : Nat) : Int) + ((b.toNat % 16 : Nat) : Int)).toNat = b := by
        rw [show (16 * ((b.toNat / 16 : Nat) : Int) + ((b.toNat % 16 : Nat) : Int)).toNat = b.toNat by omega, UInt8.ofNat_toNat]
      rw [if_neg (by simp; omega), e, if_neg hp, untold_coded r]; rfl
theorem untold_dec : ∀ (n : Nat) (s t : List UInt8), s.length ≤ n → untold s = some t → codedL t = s ∧ decI s = some t
  | _, [], t, _, h => by cases h; exact ⟨rfl, rfl⟩
  | 0, b :: r, t, hn, h => by simp at hn
  | n + 1, b :: r, t, hn, h => by
    simp only [List.length_cons] at hn
    rw [untold_cons] at h
    by_cases hp : plain b = true
    · rw [if_pos hp] at h
      cases hr : untold r with
      | none => rw [hr] at h; cases h
      | some u =>
        rw [hr] at h; cases h
        obtain ⟨h1, h2⟩ := untold_dec n r u (by omega) hr
        have := plain_ne b hp
        refine ⟨by rw [codedL_cons, codeB, if_pos hp, h1]; rfl, ?_⟩
        rw [decI_cons, if_pos (by simp; omega), h2]; rfl
    · rw [if_neg hp] at h
      rcases r with _ | ⟨x, _ | ⟨y, r⟩⟩
      · cases h
      · cases h
      · dsimp only at h
        by_cases hc : (!(b.toNat == 37) || decide (hexv x < 0) || decide (hexv y < 0)) = true
        · rw [if_pos hc] at h; cases h
        · rw [if_neg hc] at h
          by_cases hpc : plain (UInt8.ofNat (16 * hexv x + hexv y).toNat) = true
          · rw [if_pos hpc] at h; cases h
          · rw [if_neg hpc] at h
            simp only [Bool.or_eq_true, not_or, decide_eq_true_eq, Bool.not_eq_true', Bool.not_eq_false] at hc
            obtain ⟨⟨hb, hx⟩, hy⟩ := hc
            have hb : b.toNat = 37 := by simpa using hb
            have hx0 : 0 ≤ hexv x := by omega
            have hy0 : 0 ≤ hexv y := by omega
            have hx1 := (hexv_le x).2
            have hy1 := (hexv_le y).2
            obtain ⟨bx, dx⟩ := hex_back x hx0
            obtain ⟨bY, dy⟩ := hex_back y hy0
            cases hr : untold r with
            | none => rw [hr] at h; cases h
            | some u =>
              rw [hr] at h; cases h
              simp only [List.length_cons] at hn
              obtain ⟨h1, h2⟩ := untold_dec n r u (by omega) hr
              have e : (UInt8.ofNat (16 * hexv x + hexv y).toNat).toNat = (16 * hexv x + hexv y).toNat := by rw [UInt8.toNat_ofNat']; omega
              have b37 : b = 37 := UInt8.toNat_inj.1 (by rw [hb]; rfl)
              constructor
              · rw [codedL_cons, codeB, if_neg hpc, e, h1]
                rw [show (16 * hexv x + hexv y).toNat / 16 = (hexv x).toNat by omega, show (16 * hexv x + hexv y).toNat % 16 = (hexv y).toNat by omega, bx, bY, b37]; rfl
              · rw [decI_cons, if_neg (by rw [hb]; decide)]
                dsimp only
                have hh : hexS [x, y] 0 = some (16 * hexv x + hexv y) := by
                  rw [hexS, if_neg (by omega), hexS, if_neg (by omega), hexS, dx, dy]; congr 1; omega
                rw [hh]
                dsimp only
                rw [h2]; rfl
theorem un_dec (s t : List UInt8) : untold s = some t ↔ (decOk s = true ∧ decI s = some t) := by
  constructor
  · intro h
    obtain ⟨h1, h2⟩ := untold_dec s.length s t (Nat.le_refl _) h
    refine ⟨?_, h2⟩
    unfold decOk; rw [h2]; simpa using h1
  · rintro ⟨h1, h2⟩
    unfold decOk at h1; rw [h2] at h1
    have : codedL t = s := by simpa using h1
    rw [← this]; exact untold_coded t
theorem read_eq (s : List UInt8) : readI s = readT s := read_same un_dec s

end Go.Proofs.YtfnaplhjkapghaaDoor
