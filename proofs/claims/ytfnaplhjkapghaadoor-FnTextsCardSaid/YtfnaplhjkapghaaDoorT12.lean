/- A part of the proofs of this seat: contracts of the functions that its statements reach. -/
import Derived.Test.YtfnaplhjkapghaaDoorT11
import Derived.Test.YtfnaplhjkapghaaDoorProg
set_option linter.unusedVariables false
set_option linter.unusedSimpArgs false
set_option maxRecDepth 4000
namespace Go.Proofs.YtfnaplhjkapghaaDoor
open Go Go.RowKit Go.Proofs.YtfnaplhjkapghaaDoor.Sp
theorem ent_31 : Ent Tryd.prog 31 := ent_of Tryd.prog Tryd.func31 rfl rfl
theorem ent_32 : Ent Tryd.prog 32 := ent_of Tryd.prog Tryd.func32 rfl rfl

theorem dig_iff (b : UInt8) : dig b = true ↔ 48 ≤ b.toNat ∧ b.toNat ≤ 57 := by
  unfold dig; simp; omega
theorem dec_dig : ∀ (l : List UInt8) (acc : Nat), l.all dig = true → ∃ m : Nat, Lib.decFrom acc l = some m ∧ (m : Int) = l.foldl (fun n b => 10 * n + ((b.toNat : Int) - 48)) (acc : Int)
  | [], acc, _ => ⟨acc, rfl, rfl⟩
  | b :: r, acc, h => by
    rw [List.all_cons, Bool.and_eq_true] at h
    have hb := (dig_iff b).1 h.1
    obtain ⟨m, h1, h2⟩ := dec_dig r (acc * 10 + (b.toNat - 48)) h.2
    refine ⟨m, ?_, ?_⟩
    · rw [Lib.decFrom, Lib.digitVal, if_pos hb]; exact h1
    · rw [h2, List.foldl_cons]; congr 1; omega
theorem dec_lt : ∀ (l : List UInt8) (acc m : Nat), Lib.decFrom acc l = some m → m < (acc + 1) * 10 ^ l.length
  | [], acc, m, h => by cases h; simp
  | b :: r, acc, m, h => by
    rw [Lib.decFrom, Lib.digitVal] at h
    by_cases hb : 48 ≤ b.toNat ∧ b.toNat ≤ 57
    · rw [if_pos hb] at h
      have := dec_lt r _ m h
      have h2 : (acc * 10 + (b.toNat - 48) + 1) * 10 ^ r.length ≤ ((acc + 1) * 10) * 10 ^ r.length := Nat.mul_le_mul_right _ (by omega)
      rw [List.length_cons, Nat.pow_succ, Nat.mul_comm (10 ^ r.length) 10, ← Nat.mul_assoc]
      omega
    · rw [if_neg hb] at h; cases h
theorem digits_all (u : Nat) : (Lib.decDigits u).all dig = true := by
  induction u using Nat.strongRecOn with
  | _ u ih =>
    rw [Lib.decDigits]
    have hd : ∀ d, d < 10 → dig (UInt8.ofNat (48 + d)) = true := fun d hd => by
      rw [dig_iff, UInt8.toNat_ofNat']; omega
    split
    · rename_i h; rw [List.all_cons, List.all_nil, hd u h]; rfl
    · rw [List.all_append, ih (u / 10) (by omega), List.all_cons, List.all_nil, hd (u % 10) (Nat.mod_lt _ (by decide))]; rfl
theorem digits_head (u : Nat) (hu : 0 < u) : ∃ c r, Lib.decDigits u = c :: r ∧ c ≠ 48 := by
  induction u using Nat.strongRecOn with
  | _ u ih =>
    rw [Lib.decDigits]
    split
    · rename_i h
      refine ⟨_, [], rfl, fun e => ?_⟩
      have := congrArg UInt8.toNat e
      rw [UInt8.toNat_ofNat'] at this
      have h48 : (48 : UInt8).toNat = 48 := rfl
      omega
    · obtain ⟨c, r, h1, h2⟩ := ih (u / 10) (by omega) (by omega)
      exact ⟨c, r ++ [UInt8.ofNat (48 + u % 10)], by rw [h1]; rfl, h2⟩
theorem dval_nn {l : List UInt8} (h : l.all dig = true) : 0 ≤ dval l := (dval_bound l l.length rfl h).1
theorem digits_of : ∀ (n : Nat) (s : List UInt8), s.length = n → s ≠ [] → s.all dig = true → (s.getD 0 0 ≠ 48 ∨ s.length = 1) → Lib.decDigits (dval s).toNat = s
  | 0, s, h, h0, _, _ => absurd (List.eq_nil_of_length_eq_zero h) h0
  | n + 1, s, h, h0, hd, h48 => by
    rw [← List.dropLast_concat_getLast h0] at hd ⊢
    rw [List.all_append, Bool.and_eq_true] at hd
    have hb := hd.2
    simp only [List.all_cons, List.all_nil, Bool.and_true] at hb
    have hb := (dig_iff _).1 hb
    have hnn := dval_nn hd.1
    by_cases hn : n = 0
    · have e : s.dropLast = [] := List.eq_nil_of_length_eq_zero (by simp [h, hn])
      rw [e, List.nil_append]
      have e2 : (dval [s.getLast h0]).toNat = (s.getLast h0).toNat - 48 := by simp [dval]; omega
      rw [e2, Lib.decDigits, dif_pos (by omega)]
      rw [show 48 + ((s.getLast h0).toNat - 48) = (s.getLast h0).toNat by omega]; simp
    · have hl : s.dropLast.length = n := by simp [h]
      have hne : s.dropLast ≠ [] := by intro e; rw [e] at hl; simp at hl; omega
      have hh : s.dropLast.getD 0 0 = s.getD 0 0 := by
        cases s with
        | nil => exact absurd rfl h0
        | cons x r => cases r with
          | nil => simp at h; omega
          | cons y r => rfl
      have h48' : s.getD 0 0 ≠ 48 := by rcases h48 with h' | h'; exact h'; omega
      have ih := digits_of n s.dropLast hl hne hd.1 (.inl (by rw [hh]; exact h48'))
      have hpos : 0 < dval s.dropLast := by
        rcases Int.lt_or_le 0 (dval s.dropLast) with h' | h'
        · exact h'
        · have e0 : dval s.dropLast = 0 := by omega
          rw [e0] at ih
          exfalso
          rw [show ((0 : Int)).toNat = 0 from rfl, Lib.decDigits, dif_pos (by decide)] at ih
          rw [← hh, ← ih] at h48'
          exact h48' rfl
      rw [dval_snoc, Lib.decDigits, dif_neg (by omega)]
      have e1 : (10 * dval s.dropLast + (((s.getLast h0).toNat : Int) - 48)).toNat / 10 = (dval s.dropLast).toNat := by omega
      have e2 : 48 + (10 * dval s.dropLast + (((s.getLast h0).toNat : Int) - 48)).toNat % 10 = (s.getLast h0).toNat := by omega
      rw [e1, e2, ih]; simp
theorem atoi_dig {s : List UInt8} (h0 : s ≠ []) (hd : s.all dig = true) : Lib.atoi s = some (dval s) := by
  obtain ⟨m, h1, h2⟩ := dec_dig s 0 hd
  cases s with
  | nil => exact absurd rfl h0
  | cons b r =>
    rw [List.all_cons, Bool.and_eq_true] at hd
    have hb := (dig_iff b).1 hd.1
    have n45 : (b == 45) = false := by
      simp only [beq_eq_false_iff_ne, ne_eq]; rintro rfl; simp at hb
    have n43 : (b == 43) = false := by
      simp only [beq_eq_false_iff_ne, ne_eq]; rintro rfl; simp at hb
    rw [Lib.atoi, if_neg (by rw [n45]; decide), if_neg (by rw [n43]; decide), Lib.decNat, if_neg (by simp), h1]
    simp only [Option.map_some, Option.some.injEq]
    exact h2
theorem atoi_small {s : List UInt8} {n : Int} (hs : s.length ≤ 4) (h : Lib.atoi s = some n) : -99999 ≤ n ∧ n ≤ 99999 := by
  have key : ∀ l m, l.length ≤ 4 → Lib.decNat l = some m → m ≤ 99999 := fun l m hl hm => by
    unfold Lib.decNat at hm
    split at hm
    · cases hm
    · have := dec_lt l 0 m hm
      have h4 : 10 ^ l.length ≤ 10 ^ 4 := Nat.pow_le_pow_right (by decide) hl
      omega
  cases s with
  | nil => cases h
  | cons b r =>
    rw [Lib.atoi] at h
    simp only [List.length_cons] at hs
    split at h
    · cases hr : Lib.decNat r with
      | none => rw [hr] at h; cases h
      | some m => rw [hr] at h; have := key r m (by omega) hr; simp at h; omega
    · split at h
      · cases hr : Lib.decNat r with
        | none => rw [hr] at h; cases h
        | some m => rw [hr] at h; have := key r m (by omega) hr; simp at h; omega
      · cases hr : Lib.decNat (b :: r) with
        | none => rw [hr] at h; cases h
        | some m => rw [hr] at h; have := key (b :: r) m (by simpa using hs) hr; simp at h; omega
def numC (s : List UInt8) (n : Int) (e : Value) : Bool := (((!isNil e) || decide ((s.length : Int) > 4)) || decide (n < 0)) || !(Lib.itoa n == s)
theorem num_neg {s : List UInt8} {n : Int} {e : Value} (hr : s.length ≤ 18 → (isNil e = true → Lib.atoi s = some n) ∧ (isNil e = false → Lib.atoi s = none)) (h : numC s n e = true) : num4 s = -1 := by
  unfold num4
  by_cases hb : bad4 s = true
  · rw [if_pos hb]
  · by_cases hd : s.all dig = true
    · exfalso
      have hb' : bad4 s = false := by simpa using hb
      unfold bad4 at hb'
      simp only [Bool.or_eq_false_iff, Bool.and_eq_false_iff, decide_eq_false_iff_not] at hb'
      obtain ⟨⟨h1, h4⟩, h5⟩ := hb'
      have hne : s ≠ [] := by rintro rfl; simp at h1
      have ha := atoi_dig hne hd
      have hr := hr (by omega)
      have he : isNil e = true := by
        cases hh : isNil e with
        | true => rfl
        | false => rw [hr.2 hh] at ha; cases ha
      have hn : n = dval s := by have := hr.1 he; rw [ha] at this; exact (Option.some.inj this).symm
      have hnn := dval_nn hd
      have hc := digits_of s.length s rfl hne hd (by
        rcases h5 with h5 | h5
        · left; intro e; rw [e] at h5; exact absurd h5 (by decide)
        · right; omega)
      have hi : Lib.itoa n = s := by unfold Lib.itoa; rw [if_neg (by omega), hn]; exact hc
      unfold numC at h
      rw [he, hi] at h
      simp at h
      omega
    · rw [if_neg hb, if_neg hd]
theorem num_pos {s : List UInt8} {n : Int} {e : Value} (hr : s.length ≤ 18 → (isNil e = true → Lib.atoi s = some n) ∧ (isNil e = false → Lib.atoi s = none)) (h : numC s n e = false) : num4 s = n := by
  unfold numC at h
  simp only [Bool.or_eq_false_iff, decide_eq_false_iff_not, Bool.not_eq_false'] at h
  obtain ⟨⟨⟨h1, h2⟩, h3⟩, h4⟩ := h
  have hi : Lib.itoa n = s := by simpa using h4
  unfold Lib.itoa at hi
  rw [if_neg (by omega)] at hi
  have hd : s.all dig = true := by rw [← hi]; exact digits_all _
  have hne : s ≠ [] := by
    rw [← hi, Lib.decDigits]; split <;> simp
  have ha := atoi_dig hne hd
  have := (hr (by omega)).1 (by simpa using h1)
  rw [ha] at this
  have hn : dval s = n := Option.some.inj this
  unfold num4
  rw [if_neg, if_pos hd]; exact hn
  have hl : 1 ≤ s.length := by have := List.length_pos_iff.2 hne; omega
  unfold bad4
  simp only [Bool.not_eq_true, Bool.or_eq_false_iff, Bool.and_eq_false_iff, decide_eq_false_iff_not]
  refine ⟨⟨by omega, by omega⟩, ?_⟩
  by_cases hu : 0 < n.toNat
  · obtain ⟨c, r, e1, e2⟩ := digits_head _ hu
    left
    rw [← hi, e1]
    simp only [List.getD_cons_zero, beq_eq_false_iff_ne, ne_eq]
    intro e3; exact e2 (UInt8.toNat_inj.1 (by have h48 : (48 : UInt8).toNat = 48 := rfl; omega))
  · right
    rw [← hi, show n.toNat = 0 by omega, Lib.decDigits, dif_pos (by decide)]; simp
theorem itoaC (n : Int) (h0 : -9223372036854775808 ≤ n) (h1 : n ≤ 9223372036854775807) (w : World) (hg : GL w) : CV Tryd.prog 32 [.int .i64 n] w (str (Lib.itoa n)) := by
  refine (Tryd.strconv_Itoa n h0 h1 w hg.tab).mono ?_
  rintro e w' ⟨he, k, os, rfl⟩
  refine ⟨he, ((Sat.start w).drewN k).step rfl rfl rfl (fun b hb => ?_) ?_⟩
  · show (_ ++ os)[b]? = _
    rw [Array.getElem?_append_left hb]
  · show _ ≤ (_ ++ os).size
    simp

/-! impl.number -/
theorem implNum (s : List UInt8) (hl : s.length ≤ 1048576) (w : World) (hg : GL w) : CV Tryd.prog 19 [str s] w (.int .i64 (num4 s)) := by
  refine CV.of ?_
  refine enter Tryd.func19 rfl rfl rfl (Sat.start w) ?_
  simp only [mkL]
  refine WC.seq ?_
  refine WC.region ?_
  refine WO.val (.asg (.r rfl)) rfl ?_
  refine WO.nil ?_
  refine KQ.seq ?_
  refine WC.seq ?_
  refine WC.region ?_
  refine WO.val (.mv (.r rfl)) rfl ?_
  refine WO.callP rfl ent_31 rfl (fun w hw => atoiC s hl w (hg.mono hw)) fun q => ?_
  refine WO.fact (fun w hw => (Sat.pure1 hw).1) fun hq => ?_
  refine WO.drop ?_
  refine WO.val (.mv (.r rfl)) rfl ?_
  refine WO.val (.ext (.r rfl) rfl) rfl ?_
  refine WO.val (.ext (.r rfl) rfl) rfl ?_
  refine WO.val (.asg (.r rfl)) rfl ?_
  refine WO.val (.asg (.r rfl)) rfl ?_
  refine WO.nil ?_
  refine KQ.seq ?_
  refine WC.seq ?_
  refine WC.seq ?_
  refine WC.region ?_
  refine WO.val (.mv (.r rfl)) rfl ?_
  refine WO.val (.neN ifc_50 (.r rfl) hq.1) rfl ?_
  refine WO.val (.mv (.r rfl)) rfl ?_
  refine WO.gd rfl rfl rfl (fun h => (.mv (.r rfl))) ?_
  refine WO.gd rfl rfl rfl (fun h => (.lenT Tryd.underlying9 (.g h rfl))) ?_
  refine WO.gd rfl rfl rfl (fun h => (.bin (.g h rfl) (.r rfl) rfl)) ?_
  refine WO.val (.or rfl rfl) rfl ?_
  refine WO.val (.mv (.r rfl)) rfl ?_
  refine WO.gd rfl rfl rfl (fun h => (.mv (.r rfl))) ?_
  refine WO.gd rfl rfl rfl (fun h => (.bin (.g h rfl) (.r rfl) rfl)) ?_
  refine WO.val (.or rfl rfl) rfl ?_
  refine WO.val (.mv (.r rfl)) rfl ?_
  refine WO.gd rfl rfl rfl (fun h => (.mv (.r rfl))) ?_
  refine WO.gdC rfl rfl rfl ent_32 (fun h => ⟨.cons (.g h rfl) (.nil), fun w hw => by have hb := atoi_small (by simp at h; omega) ((hq.2 (by simp at h; omega)).1 (by simp at h; exact h.1.1)); exact itoaC q.1 (by omega) (by omega) w (hg.mono hw)⟩) ?_
  refine WO.gd rfl rfl rfl (fun h => (.mv (.r rfl))) ?_
  refine WO.gd rfl rfl rfl (fun h => (.neS (.g h rfl) (.g h rfl))) ?_
  refine WO.val (.or rfl rfl) rfl ?_
  refine WO.nil ?_
  refine KQ.seq ?_
  refine WC.cond rfl (fun c1 => ?_) (fun c1 => ?_)
  · refine WC.seq ?_
    refine WC.region ?_
    refine WO.val (.asg (.r rfl)) rfl ?_
    refine WO.nil ?_
    refine KQ.seq ?_
    refine WC.ret ?_
    exact KQ.thenR (KQ.fin rfl (.tmp rfl .nil) (fun w hw => ⟨(), by rw [num_neg hq.2 c1]; rfl, hw⟩))
  · refine WC.skip ?_
    refine KQ.seq ?_
    refine WC.seq ?_
    refine WC.region ?_
    refine WO.val (.mv (.r rfl)) rfl ?_
    refine WO.val (.asg (.r rfl)) rfl ?_
    refine WO.nil ?_
    refine KQ.seq ?_
    refine WC.ret ?_
    exact KQ.fin rfl (.tmp rfl .nil) (fun w hw => ⟨(), by rw [num_pos hq.2 c1]; rfl, hw⟩)
end Go.Proofs.YtfnaplhjkapghaaDoor
