/- A small separation logic over the model's heap: assertions with footprints, what a world satisfies, and how it changes. -/
import Derived.WalkKit
import Derived.Deep.Draws
set_option linter.unusedVariables false
set_option linter.unusedSimpArgs false
namespace Go.Proofs.YtfnaplhjkapghaaDoor.Sp
open Go Go.RowKit

/-! heaps as functions -/
abbrev HP := Nat → Option Obj
def hp (w : World) : HP := fun b => w.heap[b]?
def cellAt (H : HP) (a : Addr) : Option Value :=
  match H a.block with
  | some (.cells c _ _) => if a.spot.isSome then none else c[a.off]?
  | _ => none
theorem cellAt_hp (w : World) (a : Addr) : cellAt (hp w) a = w.cell? a := rfl
def Le (H H' : HP) : Prop := ∀ b o, H b = some o → H' b = some o
theorem Le.refl (H : HP) : Le H H := fun _ _ h => h
theorem Le.trans {A B C : HP} (h : Le A B) (k : Le B C) : Le A C := fun b o x => k b o (h b o x)
theorem Le.cell {H H' : HP} (h : Le H H') {a : Addr} {v : Value} (hc : cellAt H a = some v) : cellAt H' a = some v := by
  unfold cellAt at *
  cases hb : H a.block with
  | none => rw [hb] at hc; cases hc
  | some o => rw [hb] at hc; rw [h _ _ hb]; exact hc

/-! assertions -/
structure Asn where
  h : HP → (Nat → Prop) → Prop
  loc : ∀ {H H' : HP} {F : Nat → Prop}, (∀ b, F b → H' b = H b) → h H F → h H' F
def Asn.emp : Asn := ⟨fun _ F => ∀ b, ¬ F b, fun _ h => h⟩
def Asn.blk (g : Nat) (o : Obj) : Asn := ⟨fun H F => H g = some o ∧ ∀ k, F k ↔ k = g, fun e h => ⟨by rw [e g ((h.2 g).2 rfl)]; exact h.1, h.2⟩⟩
def Asn.pu (p : Prop) : Asn := ⟨fun _ F => p ∧ ∀ b, ¬ F b, fun _ h => h⟩
def Asn.ex {ι : Type} (A : ι → Asn) : Asn := ⟨fun H F => ∃ i, (A i).h H F, fun e ⟨i, h⟩ => ⟨i, (A i).loc e h⟩⟩
def Asn.or (A B : Asn) : Asn := ⟨fun H F => A.h H F ∨ B.h H F, fun e h => h.imp (A.loc e) (B.loc e)⟩
def Sep (F F1 F2 : Nat → Prop) : Prop := (∀ b, ¬ (F1 b ∧ F2 b)) ∧ ∀ b, F b ↔ F1 b ∨ F2 b
def Asn.star (A B : Asn) : Asn := ⟨fun H F => ∃ F1 F2, Sep F F1 F2 ∧ A.h H F1 ∧ B.h H F2,
  fun e ⟨F1, F2, hs, h1, h2⟩ => ⟨F1, F2, hs, A.loc (fun b hb => e b ((hs.2 b).2 (.inl hb))) h1, B.loc (fun b hb => e b ((hs.2 b).2 (.inr hb))) h2⟩⟩
def stars : List Asn → Asn
  | [] => .emp
  | A :: l => .star A (stars l)

theorem Sep.symm {F F1 F2 : Nat → Prop} (h : Sep F F1 F2) : Sep F F2 F1 := ⟨fun b hb => h.1 b ⟨hb.2, hb.1⟩, fun b => (h.2 b).trans or_comm⟩
theorem star_comm {A B : Asn} {H : HP} {F : Nat → Prop} (h : (Asn.star A B).h H F) : (Asn.star B A).h H F :=
  let ⟨F1, F2, hs, a, b⟩ := h; ⟨F2, F1, hs.symm, b, a⟩
theorem star_assoc {A B C : Asn} {H : HP} {F : Nat → Prop} (h : (Asn.star (.star A B) C).h H F) : (Asn.star A (.star B C)).h H F := by
  obtain ⟨F1, F2, hs, ⟨F3, F4, ht, a, b⟩, c⟩ := h
  refine ⟨F3, fun k => F4 k ∨ F2 k, ⟨?_, ?_⟩, a, F4, F2, ⟨?_, fun _ => Iff.rfl⟩, b, c⟩
  · rintro k ⟨h3, h4 | h2⟩
    · exact ht.1 k ⟨h3, h4⟩
    · exact hs.1 k ⟨(ht.2 k).2 (.inl h3), h2⟩
  · intro k; rw [hs.2 k, ht.2 k, or_assoc]
  · rintro k ⟨h4, h2⟩; exact hs.1 k ⟨(ht.2 k).2 (.inr h4), h2⟩
theorem star_assoc' {A B C : Asn} {H : HP} {F : Nat → Prop} (h : (Asn.star A (.star B C)).h H F) : (Asn.star (.star A B) C).h H F :=
  star_comm (star_assoc (star_comm (star_assoc (star_comm h))))
theorem star_mono {A A' B B' : Asn} {H : HP} {F : Nat → Prop} (ha : ∀ F, A.h H F → A'.h H F) (hb : ∀ F, B.h H F → B'.h H F) (h : (Asn.star A B).h H F) : (Asn.star A' B').h H F :=
  let ⟨F1, F2, hs, a, b⟩ := h; ⟨F1, F2, hs, ha _ a, hb _ b⟩
theorem star_emp {A : Asn} {H : HP} {F : Nat → Prop} (h : A.h H F) : (Asn.star A .emp).h H F :=
  ⟨F, fun _ => False, ⟨fun _ h => h.2, fun _ => (iff_of_eq (or_false _)).symm⟩, h, fun _ h => h⟩
theorem emp_star {A : Asn} {H : HP} {F : Nat → Prop} (h : (Asn.star .emp A).h H F) : A.h H F := by
  obtain ⟨F1, F2, hs, a, b⟩ := h
  have e : F = F2 := funext fun k => propext ⟨fun hk => ((hs.2 k).1 hk).resolve_left (a k), fun hk => (hs.2 k).2 (.inr hk)⟩
  exact e ▸ b
theorem star_pu {p : Prop} {A : Asn} {H : HP} {F : Nat → Prop} : (Asn.star (.pu p) A).h H F ↔ p ∧ A.h H F :=
  ⟨fun ⟨F1, F2, hs, a, b⟩ => ⟨a.1, emp_star ⟨F1, F2, hs, a.2, b⟩⟩, fun ⟨hp, h⟩ => star_comm ⟨F, fun _ => False, ⟨fun _ h => h.2, fun _ => (iff_of_eq (or_false _)).symm⟩, h, hp, fun _ h => h⟩⟩
theorem star_ex {ι : Type} {A : ι → Asn} {B : Asn} {H : HP} {F : Nat → Prop} : (Asn.star (.ex A) B).h H F ↔ ∃ i, (Asn.star (A i) B).h H F :=
  ⟨fun ⟨F1, F2, hs, ⟨i, a⟩, b⟩ => ⟨i, F1, F2, hs, a, b⟩, fun ⟨i, F1, F2, hs, a, b⟩ => ⟨F1, F2, hs, ⟨i, a⟩, b⟩⟩

/-! what a world satisfies: the streams as they were, an old heap H0 unturned, and the assertions apart from it and from each other -/
structure Env where
  os : Os
  tape : Nat → Question → Nat
  output : Array (Nat × ByteArray)
  H0 : HP
def envOf (w : World) : Env := ⟨w.os, w.tape, w.output, hp w⟩
structure Sat (E : Env) (w : World) (Γ : List Asn) : Prop where
  os : w.os = E.os
  tape : w.tape = E.tape
  output : w.output = E.output
  old : Le E.H0 (hp w)
  own : ∃ F, (stars Γ).h (hp w) F ∧ ∀ b, F b → b < w.heap.size ∧ E.H0 b = none
theorem Sat.start (w : World) : Sat (envOf w) w [] := ⟨rfl, rfl, rfl, Le.refl _, fun _ => False, fun _ h => h, fun _ h => h.elim⟩
theorem Sat.imp {E : Env} {w : World} {Γ Γ' : List Asn} (h : Sat E w Γ) (hi : ∀ F, (stars Γ).h (hp w) F → (stars Γ').h (hp w) F) : Sat E w Γ' :=
  let ⟨F, a, b⟩ := h.own; ⟨h.os, h.tape, h.output, h.old, F, hi F a, b⟩
theorem stars_swap {A B : Asn} {Γ : List Asn} {H : HP} {F : Nat → Prop} (h : (stars (A :: B :: Γ)).h H F) : (stars (B :: A :: Γ)).h H F :=
  star_assoc (star_mono (fun _ => star_comm) (fun _ h => h) (star_assoc' h))
theorem stars_perm {Γ Γ' : List Asn} (p : Γ.Perm Γ') : ∀ {H : HP} {F : Nat → Prop}, (stars Γ).h H F → (stars Γ').h H F := by
  induction p with
  | nil => exact fun h => h
  | cons A _ ih => exact fun h => star_mono (fun _ h => h) (fun _ => ih) h
  | swap A B l => exact fun h => stars_swap h
  | trans _ _ i1 i2 => exact fun h => i2 (i1 h)
theorem Sat.perm {E : Env} {w : World} {Γ Γ' : List Asn} (h : Sat E w Γ) (p : Γ.Perm Γ') : Sat E w Γ' := h.imp fun _ => stars_perm p
theorem Sat.drop {E : Env} {w : World} {A : Asn} {Γ : List Asn} (h : Sat E w (A :: Γ)) : Sat E w Γ := by
  obtain ⟨F, ⟨F1, F2, hs, a, b⟩, hF⟩ := h.own
  exact ⟨h.os, h.tape, h.output, h.old, F2, b, fun k hk => hF k ((hs.2 k).2 (.inr hk))⟩
theorem Sat.head {E : Env} {w : World} {A : Asn} {Γ : List Asn} (h : Sat E w (A :: Γ)) : ∃ F, A.h (hp w) F :=
  let ⟨_, ⟨F1, _, _, a, _⟩, _⟩ := h.own; ⟨F1, a⟩
theorem Sat.mono1 {E : Env} {w : World} {A A' : Asn} {Γ : List Asn} (h : Sat E w (A :: Γ)) (hi : ∀ F, A.h (hp w) F → A'.h (hp w) F) : Sat E w (A' :: Γ) :=
  h.imp fun _ => star_mono hi (fun _ h => h)
theorem Sat.pure1 {E : Env} {w : World} {p : Prop} {Γ : List Asn} (h : Sat E w (.pu p :: Γ)) : p ∧ Sat E w Γ :=
  let ⟨F, a, b⟩ := h.own; let ⟨hp, a⟩ := star_pu.1 a; ⟨hp, h.os, h.tape, h.output, h.old, F, a, b⟩
theorem Sat.pureI {E : Env} {w : World} {p : Prop} {Γ : List Asn} (hp : p) (h : Sat E w Γ) : Sat E w (.pu p :: Γ) :=
  h.imp fun _ hh => star_pu.2 ⟨hp, hh⟩
theorem Sat.ex1 {E : Env} {w : World} {ι : Type} {A : ι → Asn} {Γ : List Asn} (h : Sat E w (.ex A :: Γ)) : ∃ i, Sat E w (A i :: Γ) :=
  let ⟨F, a, b⟩ := h.own; let ⟨i, a⟩ := star_ex.1 a; ⟨i, h.os, h.tape, h.output, h.old, F, a, b⟩
theorem Sat.exI {E : Env} {w : World} {ι : Type} {A : ι → Asn} {Γ : List Asn} (i : ι) (h : Sat E w (A i :: Γ)) : Sat E w (.ex A :: Γ) :=
  h.imp fun _ hh => star_ex.2 ⟨i, hh⟩
theorem Sat.star1 {E : Env} {w : World} {A B : Asn} {Γ : List Asn} (h : Sat E w (.star A B :: Γ)) : Sat E w (A :: B :: Γ) := h.imp fun _ => star_assoc
theorem Sat.starI {E : Env} {w : World} {A B : Asn} {Γ : List Asn} (h : Sat E w (A :: B :: Γ)) : Sat E w (.star A B :: Γ) := h.imp fun _ => star_assoc'
theorem Sat.emp1 {E : Env} {w : World} {Γ : List Asn} (h : Sat E w (.emp :: Γ)) : Sat E w Γ := h.imp fun _ => emp_star
theorem Sat.empI {E : Env} {w : World} {Γ : List Asn} (h : Sat E w Γ) : Sat E w (.emp :: Γ) := h.imp fun _ hh => star_comm (star_emp hh)

/-- a step that leaves all blocks that a heap had: the assertions stay -/
theorem Sat.step {E : Env} {w w' : World} {Γ : List Asn} (h : Sat E w Γ) (ho : w'.os = w.os) (ht : w'.tape = w.tape) (hu : w'.output = w.output)
    (hb : ∀ b, b < w.heap.size → w'.heap[b]? = w.heap[b]?) (hs : w.heap.size ≤ w'.heap.size) : Sat E w' Γ := by
  obtain ⟨F, a, b⟩ := h.own
  refine ⟨ho.trans h.os, ht.trans h.tape, hu.trans h.output, fun k o hk => ?_, F, (stars Γ).loc (fun k hk => hb k (b k hk).1) a, fun k hk => ⟨Nat.lt_of_lt_of_le (b k hk).1 hs, (b k hk).2⟩⟩
  have := h.old k o hk
  exact (hb k (Array.getElem?_eq_some_iff.1 this).1).trans this
theorem Sat.drewN {E : Env} {w : World} {Γ : List Asn} (h : Sat E w Γ) (n : Nat) : Sat E (w.drewN n) Γ := h.step rfl rfl rfl (fun _ _ => rfl) (Nat.le_refl _)
theorem Sat.drew {E : Env} {w : World} {Γ : List Asn} (h : Sat E w Γ) : Sat E w.drew Γ := h.step rfl rfl rfl (fun _ _ => rfl) (Nat.le_refl _)
theorem Sat.alloc {E : Env} {w : World} {Γ : List Asn} (h : Sat E w Γ) (o : Obj) : Sat E (w.alloc o) (.blk w.heap.size o :: Γ) := by
  obtain ⟨F, a, b⟩ := h.own
  have hk := h.step (w' := w.alloc o) rfl rfl rfl (fun k hk => Below.heap_alloc w o k hk) (by simp)
  refine ⟨hk.os, hk.tape, hk.output, hk.old, fun k => k = w.heap.size ∨ F k, ⟨fun k => k = w.heap.size, F, ⟨fun k hh => ?_, fun _ => Iff.rfl⟩, ⟨heap_alloc_new w o, fun _ => Iff.rfl⟩, (stars Γ).loc (fun k hk => Below.heap_alloc w o k (b k hk).1) a⟩, ?_⟩
  · have := (b k hh.2).1; omega
  · rintro k (rfl | hk)
    · refine ⟨by simp, ?_⟩
      cases hz : E.H0 w.heap.size with
      | none => rfl
      | some o' =>
        have hq : w.heap[w.heap.size]? = some o' := h.old _ _ hz
        have := (Array.getElem?_eq_some_iff.1 hq).1; omega
    · exact ⟨by have := (b k hk).1; simp; omega, (b k hk).2⟩
theorem Sat.blk {E : Env} {w : World} {g : Nat} {o : Obj} {Γ : List Asn} (h : Sat E w (.blk g o :: Γ)) : w.heap[g]? = some o :=
  let ⟨_, hh⟩ := h.head; hh.1
/-- a change of one block of one's own -/
theorem Sat.turn {E : Env} {w w' : World} {g : Nat} {o o' : Obj} {Γ : List Asn} (h : Sat E w (.blk g o :: Γ)) (ho : w'.os = w.os) (ht : w'.tape = w.tape) (hu : w'.output = w.output)
    (hg : w'.heap[g]? = some o') (hb : ∀ b, b ≠ g → w'.heap[b]? = w.heap[b]?) (hs : w'.heap.size = w.heap.size) : Sat E w' (.blk g o' :: Γ) := by
  obtain ⟨F, ⟨F1, F2, hsep, a, r⟩, hF⟩ := h.own
  have hn : E.H0 g = none := (hF g ((hsep.2 g).2 (.inl ((a.2 g).2 rfl)))).2
  refine ⟨ho.trans h.os, ht.trans h.tape, hu.trans h.output, fun k p hk => ?_, F, ⟨F1, F2, hsep, ⟨hg, a.2⟩, (stars Γ).loc (fun k hk => hb k fun e => hsep.1 k ⟨(a.2 k).2 e, hk⟩) r⟩, fun k hk => by rw [hs]; exact hF k hk⟩
  have hne : k ≠ g := fun e => by rw [e, hn] at hk; cases hk
  exact (hb k hne).trans (h.old k p hk)
theorem Sat.set {E : Env} {w : World} {g : Nat} {c : Array Value} {T : TypeId} {z : Nat × Nat} {Γ : List Asn} (h : Sat E w (.blk g (.cells c T z) :: Γ)) (i : Nat) (u : Value) :
    Sat E (w.setCell ⟨g, i, none⟩ u) (.blk g (.cells (c.setIfInBounds i u) T z) :: Γ) := by
  refine h.turn rfl rfl rfl ?_ (fun b hb => Below.heap_setCell w _ _ _ hb) (by simp [World.setCell])
  have := h.blk
  simp [World.setCell, Array.getElem?_modify, this]
/-- what a call that makes memory alone did: over its own start -/
theorem Sat.call {E : Env} {w w' : World} {Γ Δ : List Asn} (h : Sat E w Γ) (k : Sat (envOf w) w' Δ) : Sat E w' (Δ ++ Γ) := by
  obtain ⟨F, a, b⟩ := h.own
  obtain ⟨G, c, d⟩ := k.own
  have hold : ∀ i, i < w.heap.size → w'.heap[i]? = w.heap[i]? := fun i hi => by
    have e : w.heap[i]? = some w.heap[i] := Array.getElem?_eq_getElem hi
    exact (k.old i _ e).trans e.symm
  have hsz : w.heap.size ≤ w'.heap.size := by
    by_cases h0 : w.heap.size = 0
    · omega
    · have e : w.heap[w.heap.size - 1]? = some w.heap[w.heap.size - 1] := Array.getElem?_eq_getElem (by omega)
      have := k.old _ _ e
      have := (Array.getElem?_eq_some_iff.1 this).1
      omega
  have hs := h.step k.os k.tape k.output hold hsz
  have main : ∀ (Δ : List Asn) (G : Nat → Prop), (stars Δ).h (hp w') G → (∀ i, G i → ¬ F i) → (stars (Δ ++ Γ)).h (hp w') (fun i => G i ∨ F i) := by
    intro Δ
    induction Δ with
    | nil =>
      intro G hG _
      have e : (fun i => G i ∨ F i) = F := funext fun i => propext ⟨fun hh => hh.resolve_left (hG i), .inr⟩
      rw [e]
      exact (stars Γ).loc (fun i hi => hold i (b i hi).1) a
    | cons A Δ ih =>
      rintro G ⟨F1, F2, hsep, x, y⟩ hd
      refine ⟨F1, fun i => F2 i ∨ F i, ⟨?_, fun i => ?_⟩, x, ih F2 y fun i hi => hd i ((hsep.2 i).2 (.inr hi))⟩
      · rintro i ⟨h1, h2 | h2⟩
        · exact hsep.1 i ⟨h1, h2⟩
        · exact hd i ((hsep.2 i).2 (.inl h1)) h2
      · show G i ∨ F i ↔ _
        rw [hsep.2 i, or_assoc]
  refine ⟨hs.os, hs.tape, hs.output, hs.old, _, main Δ G c fun i hg hf => ?_, ?_⟩
  · have h1 := (d i hg).2
    have h2 : w.heap[i]? = some (w.heap[i]'(b i hf).1) := Array.getElem?_eq_getElem (b i hf).1
    exact absurd (h1.symm.trans h2) (by simp)
  · rintro i (hi | hi)
    · refine ⟨(d i hi).1, ?_⟩
      cases hz : E.H0 i with
      | none => rfl
      | some o =>
        have := h.old i o hz
        exact absurd ((d i hi).2.symm.trans this) (by simp)
    · exact ⟨Nat.lt_of_lt_of_le (b i hi).1 hsz, (b i hi).2⟩
theorem Sat.below {w w' : World} {Γ : List Asn} (k : Sat (envOf w) w' Γ) : Below w.heap.size w w' := by
  have hold : ∀ i, i < w.heap.size → w'.heap[i]? = w.heap[i]? := fun i hi => by
    have e : w.heap[i]? = some w.heap[i] := Array.getElem?_eq_getElem hi
    exact (k.old i _ e).trans e.symm
  refine ⟨k.os, k.tape, k.output, ?_, hold⟩
  by_cases h0 : w.heap.size = 0
  · omega
  · have e : w.heap[w.heap.size - 1]? = some w.heap[w.heap.size - 1] := Array.getElem?_eq_getElem (by omega)
    have := k.old _ _ e
    have := (Array.getElem?_eq_some_iff.1 this).1
    omega
end Go.Proofs.YtfnaplhjkapghaaDoor.Sp
