/- A part of the proofs of this seat: contracts of the functions that its statements reach. -/
import Derived.Test.YtfnaplhjkapghaaDoorT9
import Derived.Test.YtfnaplhjkapghaaDoorProg
set_option linter.unusedVariables false
set_option linter.unusedSimpArgs false
set_option maxRecDepth 4000
namespace Go.Proofs.YtfnaplhjkapghaaDoor
open Go Go.RowKit Go.Proofs.YtfnaplhjkapghaaDoor.Sp


theorem split_one (b : UInt8) : ∀ s : List UInt8, Lib.splitK [b] 0 (Lib.count s [b]) s = splitOn b s
  | [] => by
    rw [Lib.count_miss (by rfl)]; rfl
  | x :: r => by
    have ih := split_one b r
    rw [splitOn_cons]
    by_cases hx : x = b
    · subst hx
      have h0 : Lib.index (x :: r) [x] = ((0 : Nat) : Int) := by unfold Lib.index; simp
      rw [if_pos (by simp), Lib.count_hit (by simp) h0]
      rw [Nat.add_comm, Lib.splitK, if_neg (by rw [h0]; decide), h0]
      simpa using ih
    · have hne : ((x.toNat : Int) == (b.toNat : Int)) = false := by
        simp only [beq_eq_false_iff_ne, ne_eq]
        intro h
        exact hx (UInt8.toNat_inj.1 (by omega))
      have hp : List.isPrefixOf [b] (x :: r) = false := by simp [List.isPrefixOf]; exact fun h => hx h.symm
      rw [if_neg (by rw [hne]; decide)]
      have hge := Lib.index_ge r [b]
      by_cases hr : Lib.index r [b] = -1
      · have h1 : Lib.index (x :: r) [b] = -1 := by rw [Lib.index, hp, hr]; rfl
        rw [Lib.count_miss h1, Lib.splitK, ← ih, Lib.count_miss hr, Lib.splitK]; rfl
      · obtain ⟨i, hi⟩ : ∃ i : Nat, Lib.index r [b] = i := ⟨(Lib.index r [b]).toNat, by omega⟩
        have h1 : Lib.index (x :: r) [b] = ((i + 1 : Nat) : Int) := by
          rw [Lib.index, hp, hi]
          rw [if_neg (by decide), if_neg (by simp <;> omega)]; rfl
        rw [← ih, Lib.count_hit (by simp) h1, Lib.count_hit (by simp) hi]
        rw [Nat.add_comm 1, Nat.add_comm 1, Lib.splitK, Lib.splitK, if_neg (by rw [h1]; first | done | (simp <;> omega)), if_neg (by rw [hi]; first | done | (simp <;> omega)), h1, hi]
        simp [glue]
theorem split_count (b : UInt8) : ∀ s : List UInt8, (Lib.splitK [b] 0 (Lib.count s [b]) s).length = Lib.count s [b] + 1
  | [] => by rw [Lib.count_miss (by rfl)]; rfl
  | x :: r => by
    have ih := split_count b r
    by_cases hx : x = b
    · subst hx
      have h0 : Lib.index (x :: r) [x] = ((0 : Nat) : Int) := by unfold Lib.index; simp
      rw [Lib.count_hit (by simp) h0]
      rw [Nat.add_comm 1, Lib.splitK, if_neg (by rw [h0]; decide), h0]
      simpa using ih
    · have hp : List.isPrefixOf [b] (x :: r) = false := by simp [List.isPrefixOf]; exact fun h => hx h.symm
      have hge := Lib.index_ge r [b]
      by_cases hr : Lib.index r [b] = -1
      · have h1 : Lib.index (x :: r) [b] = -1 := by rw [Lib.index, hp, hr]; rfl
        rw [Lib.count_miss h1, Lib.splitK]; rfl
      · obtain ⟨i, hi⟩ : ∃ i : Nat, Lib.index r [b] = i := ⟨(Lib.index r [b]).toNat, by omega⟩
        have h1 : Lib.index (x :: r) [b] = ((i + 1 : Nat) : Int) := by
          rw [Lib.index, hp, hi]
          rw [if_neg (by decide), if_neg (by simp <;> omega)]; rfl
        rw [Lib.count_hit (by simp) hi] at ih
        rw [Lib.count_hit (by simp) h1]
        rw [Nat.add_comm 1, Lib.splitK, if_neg (by rw [hi]; first | done | (simp <;> omega)), hi] at ih
        rw [Nat.add_comm 1, Lib.splitK, if_neg (by rw [h1]; first | done | (simp <;> omega)), h1]
        simpa using ih
theorem flat_cStr (l : List (List UInt8)) : l.flatMap cStr = l.map str := by induction l with | nil => rfl | cons x r ih => rw [List.flatMap_cons, ih]; rfl
theorem splitC (s : List UInt8) (hs : s.length ≤ 1048576) (w : World) (hg : GL w) : CP Tryd.prog 18 [str s, str [32]] w (fun v : Value => v) (fun v => [Row 9 1 v (splitOn 32 s).length ((splitOn 32 s).flatMap cStr)]) := by
  obtain ⟨m, hm⟩ := hg.m
  refine (Tryd.strings_Split ⟨s.toArray⟩ ⟨[32].toArray⟩ m w (by show s.length < _; omega) hm (by decide)).mono ?_
  rintro e w' ⟨he, rfl⟩
  have h1 : (Lib.splitB ⟨[32].toArray⟩ 0 (Lib.countB ⟨s.toArray⟩ ⟨[32].toArray⟩) ⟨s.toArray⟩).map (·.data.toList) = splitOn 32 s := by
    rw [Lib.splitB_data]; simpa using split_one 32 s
  have h2 : (Lib.splitB ⟨[32].toArray⟩ 0 (Lib.countB ⟨s.toArray⟩ ⟨[32].toArray⟩) ⟨s.toArray⟩).map Value.string = (splitOn 32 s).flatMap cStr := by
    rw [← h1, flat_cStr, List.map_map]; rfl
  have h3 : Lib.countB ⟨s.toArray⟩ ⟨[32].toArray⟩ + 1 = (splitOn 32 s).length := by
    have := split_count 32 s
    rw [split_one] at this
    exact this.symm
  refine ⟨_, he, ?_⟩
  rw [h2, h3]
  refine Sat.rowI (cur := (splitOn 32 s).flatMap cStr) (g := w.heap.size) (cap := (splitOn 32 s).length) ⟨rfl, Nat.le_refl _, ?_, ?_, ?_⟩ ((Sat.start w).alloc _)
  · have := splitOn_len 32 s; rw [maxLen_eq]; omega
  · rw [flat_cStr]; simp
  · rw [List.take_of_length_le]; rw [flat_cStr]; simp
def errC : Nat → Value
  | 0 => .nilIface
  | n + 1 => .iface 81 (.int .i64 (n + 1 : Nat))
theorem errC_is (n : Nat) : IsErr (errC n) := by cases n; exact .inl rfl; exact .inr ⟨_, _, rfl⟩
theorem gvErr {c : Nat} {b : Bool} (h : b = true) (hb : b = true → isNil (errC c) = false) : gv b (errC c) = .iface 81 (.int .i64 (c : Int)) := by
  subst h
  cases c with
  | zero => have := hb rfl; cases this
  | succ n => rfl
theorem puT (s : List UInt8) (h0 : 0 < s.length) (hs : s.length ≤ 1048576) (w : World) : CP Tryd.prog 51 [str s, .int .i64 10, .int .i64 0] w (fun q : Int × Nat => .tuple #[.int .u64 q.1, errC q.2]) (fun q => [.pu (q.2 ≤ 2)]) := by
  refine (Tryd.internal_strconv_ParseUint_10 ⟨s.toArray⟩ (by show s.length ≠ 0; omega) (by show s.length ≤ _; omega) w).mono ?_
  rintro e w' ⟨he, rfl⟩
  have hsat := (sat_bytes w 5 s).none
  cases hp : Lib.parseUint10 0 (ByteArray.mk s.toArray).data.toList
  · rename_i n; rw [hp] at he; exact ⟨((n : Int), 0), he, Sat.pureI (Nat.zero_le 2) hsat⟩
  · rw [hp] at he; exact ⟨(0, 2), he, Sat.pureI (by decide) hsat⟩
  · rw [hp] at he; exact ⟨(18446744073709551615, 1), he, Sat.pureI (by decide) hsat⟩

end Go.Proofs.YtfnaplhjkapghaaDoor
