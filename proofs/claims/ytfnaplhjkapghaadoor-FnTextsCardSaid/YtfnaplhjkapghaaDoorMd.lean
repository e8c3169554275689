/- The data of the program, as plain Lean data, and how they lie in memory. -/
import Derived.Test.YtfnaplhjkapghaaDoorMk
set_option linter.unusedVariables false
set_option linter.unusedSimpArgs false
namespace Go.Proofs.YtfnaplhjkapghaaDoor.Sp
open Go Go.RowKit
structure Part where
  keep : Int
  drop : Int
  put : List UInt8
  deriving DecidableEq, Inhabited
structure Run where
  rev : Int
  many : Int
  deriving DecidableEq, Inhabited
structure Disk where
  blocks : List (List UInt8)
  writes : Int
  on : Bool
  left : Int
structure Hist where
  floor : Int
  text : List UInt8
  runs : List Run
  changes : List (List Part)
def str (l : List UInt8) : Value := .string ⟨l.toArray⟩
def i64 (n : Int) : Value := .int .i64 n
def cB (b : UInt8) : List Value := [.int .u8 b.toNat]
def cI (n : Int) : List Value := [.int .i64 n]
def cBool (b : Bool) : List Value := [.bool b]
def cStr (l : List UInt8) : List Value := [str l]
def cPart (p : Part) : List Value := [.int .i64 p.keep, .int .i64 p.drop, str p.put]
def cRun (r : Run) : List Value := [.int .i64 r.rev, .int .i64 r.many]
theorem one1 {α : Type} {f : α → Value} (h : ∀ x, (f x).oneCell' = true) (x : α) : ∀ u ∈ [f x], u.oneCell' = true := fun u hu => by simp at hu; subst hu; exact h x
def rB : Rep UInt8 := .flat 1 cB (fun _ => rfl) (fun x u hu => by simp [cB] at hu; subst hu; rfl)
def rI : Rep Int := .flat 1 cI (fun _ => rfl) (fun x u hu => by simp [cI] at hu; subst hu; rfl)
def rBool : Rep Bool := .flat 1 cBool (fun _ => rfl) (fun x u hu => by simp [cBool] at hu; subst hu; rfl)
def rStr : Rep (List UInt8) := .flat 1 cStr (fun _ => rfl) (fun x u hu => by simp [cStr] at hu; subst hu; rfl)
def rPart : Rep Part := .flat 3 cPart (fun _ => rfl) (fun x u hu => by simp [cPart] at hu; rcases hu with rfl | rfl | rfl <;> rfl)
def rRun : Rep Run := .flat 2 cRun (fun _ => rfl) (fun x u hu => by simp [cRun] at hu; rcases hu with rfl | rfl <;> rfl)
/-- slices of plain elements, as elements -/
def Rep.slF {α : Type} (T n : Nat) (enc : α → List Value) (hl : ∀ x, (enc x).length = n) (h1 : ∀ x, ∀ u ∈ enc x, u.oneCell' = true) : Rep (List α) where
  n := 1
  own xs cs := .ex fun u : Value => .star (.pu (cs = [u])) (Row T n u xs.length (xs.flatMap enc))
  rd H xs cs := ∃ A c, cs = [.slice A xs.length c] ∧ xs.length ≤ c ∧ c ≤ maxLen ∧ RdL H (.flat n enc hl h1) A xs
  mono hle h := let ⟨A, c, h1, h2, h3, h4⟩ := h; ⟨A, c, h1, h2, h3, h4.mono hle⟩
  own_rd {H F xs cs} h := by
    obtain ⟨u, h⟩ := h
    obtain ⟨rfl, h'⟩ := star_pu.1 h
    rcases (show _ ∨ _ from h') with ⟨⟨rfl, h0, _⟩, _⟩ | ⟨⟨g, cap, cur⟩, h⟩
    · have : xs = [] := List.eq_nil_of_length_eq_zero h0
      subst this
      exact ⟨none, 0, rfl, Nat.le_refl _, by simp [maxLen], RdL.nil _ _ _⟩
    · obtain ⟨hr, hb⟩ := star_pu.1 h
      obtain ⟨hv, hle, hc, hz, hk⟩ := hr
      refine ⟨some ⟨g, 0, none⟩, cap, by rw [hv], hle, hc, fun i hi => ⟨_, rfl, _, rfl, fun j u hu => ?_⟩⟩
      have hj : j < n := by have := (List.getElem?_eq_some_iff.1 hu).1; rw [hl] at this; exact this
      have key : ∀ (ys : List α) (i : Nat) (hi : i < ys.length), (ys.flatMap enc)[i * n + j]? = (enc ys[i])[j]? := by
        intro ys
        induction ys with
        | nil => intro i hi; simp at hi
        | cons y ys ih =>
          intro i hi
          rw [List.flatMap_cons]
          cases i with
          | zero => rw [Nat.zero_mul, Nat.zero_add, List.getElem?_append_left (by rw [hl]; exact hj)]; rfl
          | succ i =>
            rw [List.getElem?_append_right (by rw [hl, Nat.add_mul]; omega), hl]
            have e : (i + 1) * n + j - n = i * n + j := by rw [Nat.add_mul]; omega
            rw [e, ih i (by simpa using hi)]; rfl
      have h2 := key xs i hi
      simp only at hk hb hz
      show cellAt H (((⟨g, 0, none⟩ : Addr).add (i * n)).add j) = _
      rw [add_lit, add_lit, Nat.zero_add]
      unfold cellAt
      rw [hb.1]
      simp only [Option.isSome_none, Bool.false_eq_true, if_false]
      have h3 : cur[i * n + j]? = (xs.flatMap enc)[i * n + j]? := by
        rw [← hk, List.getElem?_take, if_pos]
        have : (i + 1) * n ≤ xs.length * n := Nat.mul_le_mul_right _ hi
        rw [Nat.add_mul] at this; omega
      simpa [h3, h2] using hu
  len h := by obtain ⟨A, c, rfl, _⟩ := h; rfl
  one h := by obtain ⟨A, c, rfl, _⟩ := h; intro u hu; simp at hu; subst hu; rfl
/-- slices of other elements, as elements -/
def Rep.slR {α : Type} (T : Nat) (R : Rep α) : Rep (List α) where
  n := 1
  own xs cs := .ex fun u : Value => .star (.pu (cs = [u])) (OwnL T R u xs)
  rd H xs cs := ∃ A c, cs = [.slice A xs.length c] ∧ xs.length ≤ c ∧ c ≤ maxLen ∧ RdL H R A xs
  mono hle h := let ⟨A, c, h1, h2, h3, h4⟩ := h; ⟨A, c, h1, h2, h3, h4.mono hle⟩
  own_rd {H F xs cs} h := by
    obtain ⟨u, h⟩ := h
    obtain ⟨rfl, ch, F1, F2, hs, ha, hb⟩ := star_pu.1 h
    obtain ⟨h1, h2⟩ := rowsA_rd hb
    rcases (show _ ∨ _ from ha) with ⟨⟨rfl, h0, _⟩, _⟩ | ⟨⟨g, cap, cur⟩, h⟩
    · have : xs = [] := List.eq_nil_of_length_eq_zero h0
      subst this
      exact ⟨none, 0, rfl, Nat.le_refl _, by simp [maxLen], RdL.nil _ _ _⟩
    · obtain ⟨hr, hb⟩ := star_pu.1 h
      obtain ⟨hv, hle, hc, hz, hk⟩ := hr
      simp only at hk hb hz
      refine ⟨some ⟨g, 0, none⟩, cap, by rw [hv], hle, hc, fun i hi => ⟨_, rfl, _, h2 i hi, fun j u hu => ?_⟩⟩
      have hj : j < R.n := by
        have := (List.getElem?_eq_some_iff.1 hu).1
        simp at this; omega
      rw [List.getElem?_take, if_pos hj, List.getElem?_drop] at hu
      rw [add_lit, add_lit, Nat.zero_add]
      unfold cellAt
      rw [hb.1]
      simp only [Option.isSome_none, Bool.false_eq_true, if_false]
      have h3 : cur[i * R.n + j]? = ch[i * R.n + j]? := by
        rw [← hk, List.getElem?_take, if_pos]
        have : (i + 1) * R.n ≤ xs.length * R.n := Nat.mul_le_mul_right _ hi
        rw [Nat.add_mul] at this; omega
      simpa [h3] using hu
  len h := by obtain ⟨A, c, rfl, _⟩ := h; rfl
  one h := by obtain ⟨A, c, rfl, _⟩ := h; intro u hu; simp at hu; subst hu; rfl
variable {P : Program} {N : Nat} {E : Env} {l0 : List Oper} {rest : List Oper} {L : Slots} {Γ : List Asn} {Q : Exit → Act → World → Prop} {v : Value}
theorem One.sz {T : TypeId} (h : One P T) : ∃ inf, P.info? T = some inf ∧ inf.size = 1 := let ⟨_, i, _, _, h1, h2⟩ := h; ⟨i, h1, h2⟩
theorem Str.sz {T n : Nat} (h : Str P T n) : ∃ inf, P.info? T = some inf ∧ inf.size = n := let ⟨_, i, _, h1, h2⟩ := h; ⟨i, h1, h2⟩
theorem Val.ixg {T e n b : Nat} {z : Value} {x y : Operand} {g : Nat} {len c k : Nat} {ki : IntKind} (hT : Sli P T e n b z) (hx : Is L x (.slice (some ⟨g, 0, none⟩) len c)) (hy : Is L y (.int ki (k : Int))) (h1 : k < len) : Val P N E L Γ (.indexAddr T x y) (.pointer (some ⟨g, k * n, none⟩)) := by
  have := Val.ixn (P := P) (N := N) (E := E) (Γ := Γ) hT hx hy h1
  rw [add_lit, Nat.zero_add] at this
  exact this
/-- a row filled up element by element -/
theorem Sat.fill {α : Type} {w : World} {T n m k : Nat} {enc : α → List Value} (hl : ∀ x, (enc x).length = n) {l : List α} {z : α} (hk : k < l.length)
    (h : Sat E w (Row T n v m ((((l.take k ++ List.replicate (l.length - k) z).flatMap enc).take (k * n)) ++ enc l[k] ++ (((l.take k ++ List.replicate (l.length - k) z).flatMap enc).drop (k * n + n))) :: Γ)) :
    Sat E w (Row T n v m ((l.take (k + 1) ++ List.replicate (l.length - (k + 1)) z).flatMap enc) :: Γ) := by
  rw [flatMap_set hl _ _ _ (by rw [fill_len _ _ _ (by omega)]; exact hk), fill_set l z k hk] at h
  exact h
theorem Sat.fill0 {α : Type} {w : World} {T n m : Nat} {enc : α → List Value} {l : List α} (z : α) (h : Sat E w (Row T n v m (List.replicate l.length (enc z)).flatten :: Γ)) :
    Sat E w (Row T n v m ((l.take 0 ++ List.replicate (l.length - 0) z).flatMap enc) :: Γ) := by
  have e : (List.replicate l.length (enc z)).flatten = ((l.take 0 ++ List.replicate (l.length - 0) z).flatMap enc) := by simp [List.flatMap]
  rw [← e]; exact h
theorem Sat.fillE {α : Type} {w : World} {T n m k : Nat} {enc : α → List Value} {l : List α} {z : α} (hk : l.length ≤ k) (h : Sat E w (Row T n v m ((l.take k ++ List.replicate (l.length - k) z).flatMap enc) :: Γ)) :
    Sat E w (Row T n v m (l.flatMap enc) :: Γ) := by rw [fill_all _ _ _ hk] at h; exact h
end Go.Proofs.YtfnaplhjkapghaaDoor.Sp
