/- Joins behind a test; guarded calls in regions that draw; elements of rows; structs compared. -/
import Derived.Test.YtfnaplhjkapghaaDoorTx
import Derived.Laws.StructEq
set_option linter.unusedVariables false
set_option linter.unusedSimpArgs false
namespace Go.Proofs.YtfnaplhjkapghaaDoor.Sp
open Go Go.RowKit
variable {P : Program} {N : Nat} {E : Env} {l0 : List Oper} {rest : List Oper} {L : Slots} {Γ : List Asn} {Q : Exit → Act → World → Prop}
variable {d : Nat} {ty : TypeId} {pos : String} {af : Array Edge} {v : Value}
/-- the ways of a test come together: slots and memory of some state -/
def Mid {σ : Type} (N : Nat) (E : Env) (Lf : σ → Slots) (Γf : σ → List Asn) (a : Act) (w : World) : Prop := ∃ t, Fr N a (Lf t) ∧ Sat E w (Γf t)
theorem WC.join {σ : Type} (Lf : σ → Slots) (Γf : σ → List Asn) {c d : Code} (h : WC P N E c L Γ (Exit.then (Mid N E Lf Γf) Q)) (k : ∀ s, WC P N E d (Lf s) (Γf s) Q) : WC P N E c L Γ (Exit.then (d.wp P Q) Q) :=
  fun a w hr hs => wp_mono (h a w hr hs) fun e a w q => by
    cases e with
    | normal => obtain ⟨t, hf, hg⟩ := q; exact k t a w hf hg
    | _ => exact q
theorem KQ.mid {σ : Type} {Lf : σ → Slots} {Γf : σ → List Asn} {Q' : Exit → Act → World → Prop} (t : σ) (hl : sub L (Lf t)) (hg : ∀ w, Sat E w Γ → Sat E w (Γf t)) :
    KQ N E (Exit.then (Mid N E Lf Γf) Q') .normal L Γ := fun a w hr hs => ⟨t, hr.sub hl, hg w hs⟩
theorem slotI {k : IntKind} {a b : Int} (h : a = b) : some (Value.int k a) = some (Value.int k b) := by rw [h]
theorem evs_of_is : ∀ {xs : List Operand} {vs : List Value}, (∃ us, evs L xs = some us ∧ us = vs) → evs L xs = some vs := fun ⟨_, h, e⟩ => e ▸ h
theorem WQ.gdC {f : FuncId} {xs : List Operand} {ats : Array TypeId} {vs : List Value} {j t : Nat} {b want : Bool} (hj : ((l0[j]?).bind (·.dst)) = some t) (hv : lk t L = some (.bool b)) (hd : Nat.ble (d + 1) N = true) (he : Ent P f)
    (h : (b == want) = true → Iss L xs vs ∧ ∀ w, Sat E w Γ → CV P f vs w v)
    (k : WQ P N E l0 rest ((d, gv (b == want) v) :: L) Γ Q) : WQ P N E l0 (⟨some d, .call { callee := .value (.func f), args := xs.toArray, argTypes := ats }, ty, pos, af, some (j, want)⟩ :: rest) L Γ Q := by
  by_cases hb : b = want
  · subst hb
    have e : gv (b == b) v = v := by cases b <;> rfl
    obtain ⟨⟨us, h1, rfl⟩, h2⟩ := h (by simp)
    refine WQ.gT hj hv (WQ.callV hd he h1 h2 ?_)
    rw [e] at k; exact k
  · have e : (b == want) = false := by cases b <;> cases want <;> simp at hb ⊢
    refine WQ.gF hd hj hv e ?_
    rw [e] at k; exact k
theorem WQ.gdCN {f : FuncId} {xs : List Operand} {ats : Array TypeId} {vs : List Value} {j t : Nat} {c b want : Bool} (hj : ((l0[j]?).bind (·.dst)) = some t) (hv : lk t L = some (gv c (.bool b))) (hd : Nat.ble (d + 1) N = true) (he : Ent P f)
    (h : (c && (b == want)) = true → Iss L xs vs ∧ ∀ w, Sat E w Γ → CV P f vs w v)
    (k : WQ P N E l0 rest ((d, gv (c && (b == want)) v) :: L) Γ Q) : WQ P N E l0 (⟨some d, .call { callee := .value (.func f), args := xs.toArray, argTypes := ats }, ty, pos, af, some (j, want)⟩ :: rest) L Γ Q := by
  cases c with
  | true => exact WQ.gdC hj hv hd he h k
  | false =>
    intro a hf
    have hy : yielded l0.toArray a.tmps j = none := by
      unfold yielded
      have : (l0.toArray[j]?).bind (·.dst) = some t := by simpa using hj
      rw [this, Option.bind_some, hf.at_ t _ hv]; rfl
    unfold wpQuiet
    rw [if_neg (by simp [Region.wanted, hy])]
    exact k _ (hf.put (Nat.le_of_ble_eq_true hd) _)
/-! elements of an owned row whose array is told by an option -/
def blockOf (A : Option Addr) : Nat := (A.map (·.block)).getD 0
theorem Sat.rowA {w : World} {T n m k : Nat} {A : Option Addr} {c : Nat} {cs : List Value} (h : Sat E w (Row T n (.slice A m c) m cs :: Γ)) (hk : k < m) : A = some ⟨blockOf A, 0, .none⟩ ∧ Has w ⟨blockOf A, 0, .none⟩ cs := by
  obtain ⟨_, A', c', hv, _, _, hh⟩ := h.rowHas
  simp only [Value.slice.injEq] at hv
  obtain ⟨rfl, _, rfl⟩ := hv
  rcases h.row1 with ⟨⟨_, h0, _⟩, _⟩ | ⟨g, cap, cur, hr, _⟩
  · omega
  · have := hr.hv
    simp only [Value.slice.injEq] at this
    obtain ⟨rfl, _, _⟩ := this
    exact ⟨rfl, (hh _ rfl).2.2⟩
theorem Val.ixR {T T' e n b : Nat} {z : Value} {x y : Operand} {A : Option Addr} {len c k : Nat} {ki : IntKind} {cs : List Value} {Δ : List Asn} (hT : Sli P T e n b z) (hx : Is L x (.slice A len c)) (hy : Is L y (.int ki (k : Int))) (h1 : k < len)
    (hg : ∀ w, Sat E w Γ → Sat E w (Row T' n (.slice A len c) len cs :: Δ)) : Val P N E L Γ (.indexAddr T x y) (.pointer (some ⟨blockOf A, k * n, .none⟩)) := fun d ty pos af a w hf hs => by
  have hA := ((hg w hs).rowA h1).1
  have := Val.ixn (P := P) (N := N) (E := E) (L := L) (Γ := Γ) (ad := ⟨blockOf A, 0, .none⟩) hT (by rw [← hA]; exact hx) hy h1 d ty pos af a w hf hs
  rw [add_lit, Nat.zero_add] at this
  exact this
theorem flat_at {α : Type} {n : Nat} {enc : α → List Value} (hl : ∀ x, (enc x).length = n) : ∀ (xs : List α) (i j : Nat) (z : α), i < xs.length → j < n → (xs.flatMap enc)[i * n + j]? = (enc (xs.getD i z))[j]?
  | [], i, j, z, h, _ => by simp at h
  | y :: ys, 0, j, z, _, hj => by
    rw [List.flatMap_cons, Nat.zero_mul, Nat.zero_add, List.getElem?_append_left (by rw [hl]; exact hj)]; rfl
  | y :: ys, i + 1, j, z, h, hj => by
    have e : (i + 1) * n + j - n = i * n + j := by rw [Nat.add_mul]; omega
    rw [List.flatMap_cons, List.getElem?_append_right (by rw [hl, Nat.add_mul]; omega), hl, e, flat_at hl ys i j z (by simpa using h) hj]; rfl
theorem Sat.rowAt {α : Type} {w : World} {T n c k : Nat} {A : Option Addr} {enc : α → List Value} {xs : List α} {z : α} (hl : ∀ x, (enc x).length = n) (h : Sat E w (Row T n (.slice A xs.length c) xs.length (xs.flatMap enc) :: Γ)) (hk : k < xs.length) :
    ∀ (j : Nat) (u : Value), (enc (xs.getD k z))[j]? = some u → w.cell? ((⟨blockOf A, k * n, .none⟩ : Addr).add j) = some u := by
  intro j u hu
  have hj : j < n := by have := (List.getElem?_eq_some_iff.1 hu).1; rw [hl] at this; exact this
  have := (h.rowA hk).2 (k * n + j) u (by rw [flat_at hl xs k j z hk hj]; exact hu)
  rw [add_lit, Nat.zero_add] at this
  rw [add_lit]; exact this
/-! structs compared: what each pair of fields comes to -/
def Seq (P : Program) (T : TypeId) : Prop := P.underlying T = some (.struct (P.fieldsOf T)) ∧ P.stoodInHeld T = false ∧ P.eqGuardType P.depth T = false
theorem Val.eqA {T T' : TypeId} {x y : Operand} {xs ys : Array Value} {b : Bool} (hT : Seq P T) (hx : Is L x (.agg xs)) (hy : Is L y (.agg ys)) (hb : ∀ w, (Op.eqFields 9999 xs ys (P.fieldsOf T).toList).run P w = .ok b w) : Val P N E L Γ (.binOp .eql T x y T') (.bool b) :=
  fun _ _ _ _ ac w hf _ => by
    have h1 := run_equalIn_struct (P := P) w 9999 T xs ys hT.1 hT.2.1
    simp only [execOp, hf.is hx, hf.is hy, Sem.run_bind, run_eqGuard_agg (P := P) w .eql T x y xs ys hT.2.2, Result.andThen_ok, run_eql_struct]
    rw [h1, hb w]; rfl
theorem Val.neA {T T' : TypeId} {x y : Operand} {xs ys : Array Value} {b : Bool} (hT : Seq P T) (hx : Is L x (.agg xs)) (hy : Is L y (.agg ys)) (hb : ∀ w, (Op.eqFields 9999 xs ys (P.fieldsOf T).toList).run P w = .ok b w) : Val P N E L Γ (.binOp .neq T x y T') (.bool (!b)) :=
  fun _ _ _ _ ac w hf _ => by
    have h1 := run_equalIn_struct (P := P) w 9999 T xs ys hT.1 hT.2.1
    simp only [execOp, hf.is hx, hf.is hy, Sem.run_bind, run_eqGuard_agg (P := P) w .neq T x y xs ys hT.2.2, Result.andThen_ok, run_neq_struct]
    rw [h1, hb w]; rfl
end Go.Proofs.YtfnaplhjkapghaaDoor.Sp
