/- Typed data in memory: what is read, what is owned. -/
import Derived.Test.YtfnaplhjkapghaaDoorSl
set_option linter.unusedVariables false
set_option linter.unusedSimpArgs false
namespace Go.Proofs.YtfnaplhjkapghaaDoor.Sp
open Go Go.RowKit
variable {P : Program} {N : Nat} {E : Env} {l0 : List Oper} {rest : List Oper} {L : Slots} {Γ : List Asn} {Q : Exit → Act → World → Prop}
variable {d : Nat} {ty : TypeId} {pos : String} {af : Array Edge} {v : Value}
structure Rep (α : Type) where
  n : Nat
  own : α → List Value → Asn
  rd : HP → α → List Value → Prop
  mono : ∀ {H H' : HP} {x : α} {cs : List Value}, Le H H' → rd H x cs → rd H' x cs
  own_rd : ∀ {H : HP} {F : Nat → Prop} {x : α} {cs : List Value}, (own x cs).h H F → rd H x cs
  len : ∀ {H : HP} {x : α} {cs : List Value}, rd H x cs → cs.length = n
  one : ∀ {H : HP} {x : α} {cs : List Value}, rd H x cs → ∀ u ∈ cs, u.oneCell' = true
def Rep.flat {α : Type} (n : Nat) (enc : α → List Value) (hl : ∀ x, (enc x).length = n) (h1 : ∀ x, ∀ u ∈ enc x, u.oneCell' = true) : Rep α where
  n := n
  own x cs := .pu (cs = enc x)
  rd _ x cs := cs = enc x
  mono _ h := h
  own_rd h := h.1
  len h := h ▸ hl _
  one h := h ▸ h1 _
def Rep.pair {α β : Type} (A : Rep α) (B : Rep β) : Rep (α × β) where
  n := A.n + B.n
  own x cs := .ex fun p : List Value × List Value => .star (.pu (cs = p.1 ++ p.2)) (.star (A.own x.1 p.1) (B.own x.2 p.2))
  rd H x cs := ∃ c e, cs = c ++ e ∧ A.rd H x.1 c ∧ B.rd H x.2 e
  mono hle h := let ⟨c, e, h, ha, hb⟩ := h; ⟨c, e, h, A.mono hle ha, B.mono hle hb⟩
  own_rd h := by
    obtain ⟨⟨c, e⟩, h⟩ := h
    obtain ⟨h1, F1, F2, _, ha, hb⟩ := star_pu.1 h
    exact ⟨c, e, h1, A.own_rd ha, B.own_rd hb⟩
  len h := by obtain ⟨c, e, rfl, ha, hb⟩ := h; rw [List.length_append, A.len ha, B.len hb]
  one h := by
    obtain ⟨c, e, rfl, ha, hb⟩ := h
    intro u hu
    rcases List.mem_append.1 hu with hu | hu
    · exact A.one ha u hu
    · exact B.one hb u hu
def Rep.map {α β : Type} (f : β → α) (A : Rep α) : Rep β where
  n := A.n
  own x cs := A.own (f x) cs
  rd H x cs := A.rd H (f x) cs
  mono hle h := A.mono hle h
  own_rd h := A.own_rd h
  len h := A.len h
  one h := A.one h
/-- a slice whose elements are read -/
def RdL {α : Type} (H : HP) (R : Rep α) (A : Option Addr) (xs : List α) : Prop :=
  ∀ i (h : i < xs.length), ∃ ad, A = some ad ∧ ∃ cs, R.rd H xs[i] cs ∧ ∀ j u, cs[j]? = some u → cellAt H ((ad.add (i * R.n)).add j) = some u
theorem RdL.mono {α : Type} {H H' : HP} {R : Rep α} {A : Option Addr} {xs : List α} (hle : Le H H') (h : RdL H R A xs) : RdL H' R A xs := fun i hi =>
  let ⟨ad, h1, cs, h2, h3⟩ := h i hi; ⟨ad, h1, cs, R.mono hle h2, fun j u hu => hle.cell (h3 j u hu)⟩
theorem RdL.nil {α : Type} (H : HP) (R : Rep α) (A : Option Addr) : RdL H R A [] := fun i hi => absurd hi (by simp)
def rowsA {α : Type} (R : Rep α) : List α → List Value → Asn
  | [], ch => .pu (ch = [])
  | x :: xs, ch => .ex fun p : List Value × List Value => .star (.pu (ch = p.1 ++ p.2 ∧ p.1.length = R.n)) (.star (R.own x p.1) (rowsA R xs p.2))
theorem rowsA_rd {α : Type} {R : Rep α} : ∀ {xs : List α} {ch : List Value} {H : HP} {F : Nat → Prop}, (rowsA R xs ch).h H F →
    ch.length = xs.length * R.n ∧ ∀ i (h : i < xs.length), R.rd H xs[i] ((ch.drop (i * R.n)).take R.n)
  | [], ch, H, F, h => by obtain ⟨rfl, _⟩ := h; exact ⟨by simp, fun i hi => absurd hi (by simp)⟩
  | x :: xs, ch, H, F, h => by
    obtain ⟨⟨c, e⟩, h⟩ := h
    obtain ⟨⟨rfl, hn⟩, F1, F2, _, ha, hb⟩ := star_pu.1 h
    obtain ⟨h1, h2⟩ := rowsA_rd hb
    simp only at hn ha h1 h2
    refine ⟨by simp [hn, h1, Nat.add_mul, Nat.add_comm], fun i hi => ?_⟩
    cases i with
    | zero => simp [← hn]; exact R.own_rd ha
    | succ i =>
      have := h2 i (by simpa using hi)
      have e1 : (i + 1) * R.n = c.length + i * R.n := by rw [hn, Nat.add_mul]; omega
      rw [e1, ← List.drop_drop, List.drop_left]
      simpa using this
/-- an owned slice -/
def OwnL {α : Type} (T : TypeId) (R : Rep α) (v : Value) (xs : List α) : Asn := .ex fun ch : List Value => .star (Row T R.n v xs.length ch) (rowsA R xs ch)
theorem Sat.ownL1 {α : Type} {w : World} {T : TypeId} {R : Rep α} {xs : List α} (h : Sat E w (OwnL T R v xs :: Γ)) : ∃ ch, Sat E w (Row T R.n v xs.length ch :: rowsA R xs ch :: Γ) := let ⟨ch, h⟩ := h.ex1; ⟨ch, h.star1⟩
theorem Sat.ownLI {α : Type} {w : World} {T : TypeId} {R : Rep α} {xs : List α} {ch : List Value} (h : Sat E w (Row T R.n v xs.length ch :: rowsA R xs ch :: Γ)) : Sat E w (OwnL T R v xs :: Γ) := Sat.exI ch (Sat.starI h)
theorem Sat.pull2 {w : World} {A B : Asn} (h : Sat E w (A :: B :: Γ)) : Sat E w (B :: A :: Γ) := h.perm (.swap ..)
/-- what is owned is read -/
theorem Sat.ownL_rd {α : Type} {w : World} {T : TypeId} {R : Rep α} {xs : List α} (h : Sat E w (OwnL T R v xs :: Γ)) : ∃ A c, v = .slice A xs.length c ∧ xs.length ≤ c ∧ c ≤ maxLen ∧ RdL (hp w) R A xs := by
  obtain ⟨ch, h⟩ := h.ownL1
  obtain ⟨hl, A, c, hv, hc, hm, hh⟩ := h.rowHas
  obtain ⟨F, hr⟩ := h.drop.head
  obtain ⟨h1, h2⟩ := rowsA_rd hr
  refine ⟨A, c, hv, hc, hm, fun i hi => ?_⟩
  cases A with
  | none =>
    rcases h.row1 with ⟨⟨_, h0, _⟩, _⟩ | ⟨g, cap, cur, hr, _⟩
    · omega
    · have := hv.symm.trans hr.hv; simp at this
  | some ad =>
    obtain ⟨ho, hs, hhas⟩ := hh ad rfl
    refine ⟨ad, rfl, _, h2 i hi, fun j u hu => ?_⟩
    have hj : j < R.n := by
      have := (List.getElem?_eq_some_iff.1 hu).1
      simp at this; omega
    rw [List.getElem?_take, if_pos hj, List.getElem?_drop] at hu
    have := hhas _ _ hu
    obtain ⟨g, o, s⟩ := ad
    simp only at ho hs
    subst ho hs
    rw [add_lit] at this
    rw [add_lit, add_lit, ← Nat.add_assoc] at *
    exact this
theorem hasRow_rd {α : Type} {w : World} {n : Nat} {enc : α → List Value} {hl : ∀ x, (enc x).length = n} {h1 : ∀ x, ∀ u ∈ enc x, u.oneCell' = true} {xs : List α} {ad : Addr} (ho : ad.spot = none) (hh : Has w ad (xs.flatMap enc)) : RdL (hp w) (.flat n enc hl h1) (some ad) xs := by
  intro i hi
  refine ⟨ad, rfl, enc xs[i], rfl, fun j u hu => ?_⟩
  have hj : j < n := by have := (List.getElem?_eq_some_iff.1 hu).1; rw [hl] at this; exact this
  have key : ∀ (ys : List α) (i : Nat) (hi : i < ys.length), (ys.flatMap enc)[i * n + j]? = (enc ys[i])[j]? := by
    intro ys
    induction ys with
    | nil => intro i hi; simp at hi
    | cons y ys ih =>
      intro i hi
      rw [List.flatMap_cons]
      cases i with
      | zero => rw [Nat.zero_mul, Nat.zero_add, List.getElem?_append_left (by rw [hl]; exact hj)]; rfl
      | succ i =>
        rw [List.getElem?_append_right (by rw [hl, Nat.add_mul]; omega), hl]
        have e : (i + 1) * n + j - n = i * n + j := by rw [Nat.add_mul]; omega
        rw [e, ih i (by simpa using hi)]; rfl
  have := hh (i * n + j) u (by rw [key xs i hi]; exact hu)
  obtain ⟨g, o, s⟩ := ad
  simp only at ho
  subst ho
  show w.cell? _ = _
  show w.cell? (((⟨g, o, none⟩ : Addr).add (i * n)).add j) = _
  rw [add_lit] at this
  rw [add_lit, add_lit, Nat.add_assoc]
  exact this
/-- an owned flat row is read -/
theorem Sat.row_rd {α : Type} {w : World} {T n : Nat} {enc : α → List Value} {hl : ∀ x, (enc x).length = n} {h1 : ∀ x, ∀ u ∈ enc x, u.oneCell' = true} {xs : List α} (h : Sat E w (Row T n v xs.length (xs.flatMap enc) :: Γ)) :
    ∃ A c, v = .slice A xs.length c ∧ xs.length ≤ c ∧ c ≤ maxLen ∧ RdL (hp w) (.flat n enc hl h1) A xs := by
  obtain ⟨_, A, c, hv, hc, hm, hh⟩ := h.rowHas
  refine ⟨A, c, hv, hc, hm, ?_⟩
  cases A with
  | none =>
    rcases h.row1 with ⟨⟨_, h0, _⟩, _⟩ | ⟨g, cap, cur, hr, _⟩
    · have : xs = [] := List.eq_nil_of_length_eq_zero h0
      subst this; exact RdL.nil _ _ _
    · have := hv.symm.trans hr.hv; simp at this
  | some ad => obtain ⟨_, hs, hhas⟩ := hh ad rfl; exact hasRow_rd hs hhas
/-- the old heap's cells are there still -/
theorem Sat.cell {w : World} {p : Addr} {u : Value} (h : Sat E w Γ) (hc : cellAt E.H0 p = some u) : w.cell? p = some u := h.old.cell hc
/-- take one assertion to the front -/
inductive PullAt : Nat → List Asn → Asn → List Asn → Prop
  | z {A : Asn} {Γ : List Asn} : PullAt 0 (A :: Γ) A Γ
  | s {k : Nat} {A B : Asn} {Γ Γ' : List Asn} (h : PullAt k Γ A Γ') : PullAt (k + 1) (B :: Γ) A (B :: Γ')
theorem PullAt.perm {k : Nat} {A : Asn} {Γ Γ' : List Asn} (h : PullAt k Γ A Γ') : Γ.Perm (A :: Γ') := by
  induction h with
  | z => exact .refl _
  | s _ ih => exact (ih.cons _).trans (.swap ..)
theorem WO.pull {ops : Array Oper} {l : List Oper} {A : Asn} {Γ' : List Asn} (k : Nat) (p : PullAt k Γ A Γ') (h : WO P N E ops l L (A :: Γ') Q) : WO P N E ops l L Γ Q := WO.perm p.perm h
theorem WC.pull {c : Code} {A : Asn} {Γ' : List Asn} (k : Nat) (p : PullAt k Γ A Γ') (h : WC P N E c L (A :: Γ') Q) : WC P N E c L Γ Q := WC.perm p.perm h
theorem Sat.pull {w : World} {A : Asn} {Γ' : List Asn} (h : Sat E w Γ) (k : Nat) (p : PullAt k Γ A Γ') : Sat E w (A :: Γ') := h.perm p.perm
theorem WO.drop {ops : Array Oper} {l : List Oper} {A : Asn} (h : WO P N E ops l L Γ Q) : WO P N E ops l L (A :: Γ) Q := WO.mem (fun _ hw => hw.drop) h
theorem WC.drop {c : Code} {A : Asn} (h : WC P N E c L Γ Q) : WC P N E c L (A :: Γ) Q := WC.mem (fun _ hw => hw.drop) h
/-! counters -/
theorem wrap_in {n : Int} (h0 : -9223372036854775808 ≤ n) (h1 : n ≤ 9223372036854775807) : IntKind.i64.wrap n = n := by rw [IntKind.wrap_i64]; omega
theorem pb_inc {k : Nat} (h : k + 1 ≤ 9223372036854775807) : pbin .add (.int .i64 (k : Int)) (.int .i64 1) = some (.int .i64 ((k + 1 : Nat) : Int)) := by
  show some (Value.int .i64 (IntKind.i64.wrap ((k : Int) + 1))) = _
  rw [wrap_in (by omega) (by omega)]; rfl
theorem pb_add {a b : Int} (h0 : -9223372036854775808 ≤ a + b) (h1 : a + b ≤ 9223372036854775807) : pbin .add (.int .i64 a) (.int .i64 b) = some (.int .i64 (a + b)) := by
  show some (Value.int .i64 (IntKind.i64.wrap (a + b))) = _
  rw [wrap_in h0 h1]
theorem pb_sub {a b : Int} (h0 : -9223372036854775808 ≤ a - b) (h1 : a - b ≤ 9223372036854775807) : pbin .sub (.int .i64 a) (.int .i64 b) = some (.int .i64 (a - b)) := by
  show some (Value.int .i64 (IntKind.i64.wrap (a - b))) = _
  rw [wrap_in h0 h1]
theorem lt_of_dec {i j : Nat} (h : decide ((i : Int) < (j : Int)) = true) : i < j := by simpa using h
theorem ge_of_dec {i j : Nat} (h : decide ((i : Int) < (j : Int)) = false) : j ≤ i := by simpa using h
theorem Val.ixn {T e n b : Nat} {z : Value} {x y : Operand} {ad : Addr} {len c k : Nat} {ki : IntKind} (hT : Sli P T e n b z) (hx : Is L x (.slice (some ad) len c)) (hy : Is L y (.int ki (k : Int))) (h1 : k < len) : Val P N E L Γ (.indexAddr T x y) (.pointer (some (ad.add (k * n)))) := by
  have := Val.ixa (P := P) (N := N) (E := E) (Γ := Γ) hT hx hy (by omega) (by omega)
  simpa using this
end Go.Proofs.YtfnaplhjkapghaaDoor.Sp
