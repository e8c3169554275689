/- The rules of the operations on memory. -/
import Derived.Test.YtfnaplhjkapghaaDoorOp
set_option linter.unusedVariables false
set_option linter.unusedSimpArgs false
namespace Go.Proofs.YtfnaplhjkapghaaDoor.Sp
open Go Go.RowKit
variable {P : Program} {N : Nat} {E : Env} {l0 : List Oper} {rest : List Oper} {L : Slots} {Γ : List Asn} {Q : Exit → Act → World → Prop}
variable {d : Nat} {ty : TypeId} {pos : String} {af : Array Edge} {v : Value}
/-- an assertion of the list holds of some heap's part -/
theorem stars_at : ∀ {Γ : List Asn} {k : Nat} {A : Asn} {H : HP} {F : Nat → Prop}, (stars Γ).h H F → Γ[k]? = some A → ∃ F', A.h H F'
  | [], k, A, H, F, _, e => by simp at e
  | B :: Γ, 0, A, H, F, ⟨F1, _, _, b, _⟩, e => by simp at e; subst e; exact ⟨F1, b⟩
  | B :: Γ, k + 1, A, H, F, ⟨_, F2, _, _, r⟩, e => stars_at r (by simpa using e)
theorem Sat.at_ {w : World} {k : Nat} {A : Asn} (h : Sat E w Γ) (e : Γ[k]? = some A) : ∃ F, A.h (hp w) F := let ⟨_, a, _⟩ := h.own; stars_at a e
theorem Sat.blkAt {w : World} {k g : Nat} {o : Obj} (h : Sat E w Γ) (e : Γ[k]? = some (.blk g o)) : w.heap[g]? = some o := let ⟨_, a⟩ := h.at_ e; a.1
/-- cells at an address -/
def Has (w : World) (p : Addr) (cs : List Value) : Prop := ∀ j u, cs[j]? = some u → w.cell? (p.add j) = some u
theorem add_lit (g o j : Nat) : (⟨g, o, none⟩ : Addr).add j = ⟨g, o + j, none⟩ := by unfold Addr.add; split <;> simp_all
theorem has_blk {w : World} {g o : Nat} {c : List Value} {T : TypeId} {z : Nat × Nat} {cs : List Value} (h : w.heap[g]? = some (.cells c.toArray T z)) (e : (c.drop o).take cs.length = cs) : Has w ⟨g, o, none⟩ cs := by
  intro j u hu
  have hj : j < cs.length := (List.getElem?_eq_some_iff.1 hu).1
  rw [add_lit, cell_of_row w g (o + j) c.toArray T z h]
  have h2 : ((c.drop o).take cs.length)[j]? = some u := by rw [e]; exact hu
  rw [List.getElem?_take, if_pos hj, List.getElem?_drop] at h2
  simpa using h2
/-! types, as closed facts -/
/-- a type whose variables are one cell, no struct and no array -/
def One (P : Program) (T : TypeId) : Prop := (∃ ds i, P.underlying T = some ds ∧ (match ds with | .struct _ | .array _ _ => False | _ => True) ∧ P.info? T = some i ∧ i.size = 1)
/-- a struct type of n cells -/
def Str (P : Program) (T : TypeId) (n : Nat) : Prop := ∃ fs i, P.underlying T = some (.struct fs) ∧ P.info? T = some i ∧ i.size = n
/-- field f of T lies at an offset, and is not empty -/
def Fld (P : Program) (T : TypeId) (f off : Nat) : Prop := ∃ fs fld i, P.underlying T = some (.struct fs) ∧ fs[f]? = some fld ∧ P.info? fld.type = some i ∧ i.size ≠ 0 ∧ fld.offset = off
/-- a slice type, its element's type, size, bytes and zero value -/
def Sli (P : Program) (T e n b : Nat) (z : Value) : Prop := ∃ i, P.underlying T = some (.slice e) ∧ P.info? e = some i ∧ i.size = n ∧ i.bytes = b ∧ i.zero = some z ∧ z.cells.size = n ∧ 0 < n
def Zer (P : Program) (T : TypeId) (z : Value) (n : Nat) : Prop := ∃ i, P.info? T = some i ∧ i.zero = some z ∧ i.size = n
theorem One.of {T : TypeId} (h : (match P.underlying T, P.info? T with | some ds, some i => (match ds with | .struct _ | .array _ _ => false | _ => true) && i.size == 1 | _, _ => false) = true) : One P T := by
  cases hu : P.underlying T with
  | none => simp [hu] at h
  | some ds =>
    cases hi : P.info? T with
    | none => simp [hu, hi] at h
    | some i =>
      rw [hu, hi] at h
      simp only [Bool.and_eq_true, beq_iff_eq] at h
      exact ⟨ds, i, hu, by cases ds <;> simp_all, hi, h.2⟩
theorem Str.of {T n : Nat} (h : (match P.underlying T, P.info? T with | some (.struct _), some i => i.size == n | _, _ => false) = true) : Str P T n := by
  cases hu : P.underlying T with
  | none => simp [hu] at h
  | some ds =>
    cases hi : P.info? T with
    | none => rw [hu, hi] at h; cases ds <;> simp at h
    | some i =>
      rw [hu, hi] at h
      cases ds <;> simp at h
      exact ⟨_, i, hu, hi, h⟩
theorem Fld.of {T f off : Nat} (h : (match P.underlying T with | some (.struct fs) => (match fs[f]? with | some fld => fld.offset == off && (match P.info? fld.type with | some i => i.size != 0 | none => false) | none => false) | _ => false) = true) : Fld P T f off := by
  cases hu : P.underlying T with
  | none => simp [hu] at h
  | some ds =>
    rw [hu] at h
    cases ds <;> simp only [] at h <;> try (cases h; done)
    rename_i fs
    cases hf : fs[f]? with
    | none => simp [hf] at h
    | some fld =>
      rw [hf] at h
      simp only [Bool.and_eq_true, beq_iff_eq] at h
      cases hi : P.info? fld.type with
      | none => rw [hi] at h; simp at h
      | some i => rw [hi] at h; exact ⟨fs, fld, i, hu, hf, hi, by simpa using h.2, h.1⟩
theorem Sli.of {T e n b : Nat} {z : Value} (hu : P.underlying T = some (.slice e)) (hi : (P.info? e).map (fun i => (i.zero, i.size, i.bytes)) = some (some z, n, b)) (hz : z.cells.size = n) (hn : 0 < n) : Sli P T e n b z := by
  cases h : P.info? e with
  | none => rw [h] at hi; cases hi
  | some i =>
    rw [h] at hi
    simp only [Option.map_some, Option.some.injEq, Prod.mk.injEq] at hi
    exact ⟨i, hu, h, hi.2.1, hi.2.2, hi.1, hz, hn⟩
theorem Zer.of {T n : Nat} {z : Value} (hi : (P.info? T).map (fun i => (i.zero, i.size)) = some (some z, n)) : Zer P T z n := by
  cases h : P.info? T with
  | none => rw [h] at hi; cases hi
  | some i =>
    rw [h] at hi
    simp only [Option.map_some, Option.some.injEq, Prod.mk.injEq] at hi
    exact ⟨i, h, hi.1, hi.2⟩
theorem One.isAgg {T : TypeId} (h : One P T) (w : World) : (isAgg T).run P w = .ok false w := by
  obtain ⟨ds, i, hu, hm, _⟩ := h
  unfold Go.isAgg
  cases ds <;> simp_all [Sem.run_bind, run_underlying hu, Result.andThen]
theorem Str.isAgg {T n : Nat} (h : Str P T n) (w : World) : (isAgg T).run P w = .ok true w := by
  obtain ⟨fs, i, hu, _⟩ := h
  simp [Go.isAgg, Sem.run_bind, run_underlying hu, Result.andThen]
theorem load_one {T : TypeId} {p : Addr} {w : World} (h : One P T) (hv : w.cell? p = some v) : (loadVar T p).run P w = .ok v w := by
  simp [loadVar, Sem.run_bind, h.isAgg w, Result.andThen, load, Sem.run, hv]
theorem load_str {T n : Nat} {p : Addr} {w : World} {cs : List Value} (h : Str P T n) (hl : cs.length = n) (hv : Has w p cs) : (loadVar T p).run P w = .ok (.agg cs.toArray) w := by
  obtain ⟨fs, i, hu, hi, hn⟩ := h
  have h1 := Str.isAgg (P := P) ⟨fs, i, hu, hi, hn⟩ w
  have h2 := run_loadCells_list (P := P) w p cs hv
  subst hl
  simp [loadVar, Sem.run_bind, h1, Result.andThen, sizeOf, typeInfo, program, Sem.run, hi, hn, h2]
/-! loads and addresses -/
theorem Val.ld {T : TypeId} {x : Operand} {p : Addr} (hT : One P T) (hx : Is L x (.pointer (some p))) (hv : ∀ w, Sat E w Γ → w.cell? p = some v) : Val P N E L Γ (.load T x) v :=
  fun _ _ _ _ a w hf hs => by simp [execOp, hf.is hx, Instr.loadAt, Instr.sureAddr, Sem.run_bind, Result.andThen, load_one hT (hv w hs)]
theorem Val.ldS {T n : Nat} {x : Operand} {p : Addr} {cs : List Value} (hT : Str P T n) (hx : Is L x (.pointer (some p))) (hl : cs.length = n) (hv : ∀ w, Sat E w Γ → Has w p cs) : Val P N E L Γ (.load T x) (.agg cs.toArray) :=
  fun _ _ _ _ a w hf hs => by simp [execOp, hf.is hx, Instr.loadAt, Instr.sureAddr, Sem.run_bind, Result.andThen, load_str hT hl (hv w hs)]
/-- of a block of one's own -/
theorem Val.ldB {T T' : TypeId} {x : Operand} {g o k : Nat} {c : List Value} {z : Nat × Nat} (hT : One P T) (hx : Is L x (.pointer (some ⟨g, o, none⟩))) (hk : Γ[k]? = some (.blk g (.cells c.toArray T' z))) (hv : c[o]? = some v) : Val P N E L Γ (.load T x) v :=
  Val.ld hT hx fun w hs => by rw [cell_of_row w g o c.toArray T' z (hs.blkAt hk)]; simpa using hv
theorem Val.ldSB {T T' n : Nat} {x : Operand} {g o k : Nat} {c cs : List Value} {z : Nat × Nat} (hT : Str P T n) (hx : Is L x (.pointer (some ⟨g, o, none⟩))) (hk : Γ[k]? = some (.blk g (.cells c.toArray T' z))) (hl : cs.length = n) (hv : (c.drop o).take cs.length = cs) : Val P N E L Γ (.load T x) (.agg cs.toArray) :=
  Val.ldS hT hx hl fun w hs => has_blk (hs.blkAt hk) hv
/-- a whole block -/
theorem Val.ldW {T T' n : Nat} {x : Operand} {g k : Nat} {c : List Value} {z : Nat × Nat} (hT : Str P T n) (hx : Is L x (.pointer (some ⟨g, 0, none⟩))) (hk : Γ[k]? = some (.blk g (.cells c.toArray T' z))) (hl : c.length = n) : Val P N E L Γ (.load T x) (.agg c.toArray) :=
  Val.ldSB hT hx hk hl (by simp)
theorem Val.fa {T f off : Nat} {x : Operand} {p : Addr} (hT : Fld P T f off) (hx : Is L x (.pointer (some p))) : Val P N E L Γ (.fieldAddr T x f) (.pointer (some (p.add off))) :=
  fun _ _ _ _ a w hf hs => by
    obtain ⟨fs, fld, i, hu, hfl, hi, hz, ho⟩ := hT
    simp [execOp, hf.is hx, Instr.fieldAt, Instr.sureAddr, fieldPlace, Sem.run_bind, run_underlying hu, Result.andThen, hfl, sizeOf, typeInfo, program, Sem.run, hi, hz, ho]
theorem Val.faL {T f off g o o' : Nat} {x : Operand} (hT : Fld P T f off) (hx : Is L x (.pointer (some ⟨g, o, none⟩))) (ho : o + off = o') : Val P N E L Γ (.fieldAddr T x f) (.pointer (some ⟨g, o', none⟩)) :=
  ho ▸ add_lit g o off ▸ Val.fa hT hx
theorem Val.ixa {T e n b : Nat} {z : Value} {x y : Operand} {ad : Addr} {len c : Nat} {ki : IntKind} {i : Int} (hT : Sli P T e n b z) (hx : Is L x (.slice (some ad) len c)) (hy : Is L y (.int ki i)) (h0 : 0 ≤ i) (h1 : i < len) : Val P N E L Γ (.indexAddr T x y) (.pointer (some (ad.add (i.toNat * n)))) :=
  fun _ _ _ _ a w hf hs => by
    obtain ⟨inf, hu, hi, hn, _⟩ := hT
    simp [execOp, hf.is hx, hf.is hy, Instr.indexAt, asIntOf, Sem.run_bind, run_underlying hu, Result.andThen, sizeOf, typeInfo, program, Sem.run, hi, hn, h0, h1]
/-! steps that change the memory -/
theorem WO.stepE {op : Op} {β : Type} {val : β → Value} {Γ' : β → List Asn} (hd : Nat.ble (d + 1) N = true)
    (hrun : ∀ a w, Fr N a L → Sat E w Γ → ∃ x w', (execOp a.eval ⟨some d, op, ty, pos, af, none⟩).run P w = .ok (.value (val x)) w' ∧ Sat E w' (Γ' x))
    (k : ∀ x, WO P N E l0.toArray rest ((d, val x) :: L) (Γ' x) Q) : WO P N E l0.toArray (⟨some d, op, ty, pos, af, none⟩ :: rest) L Γ Q := by
  intro a w hf hs
  refine wpList_plain rfl fun K hK => ?_
  obtain ⟨x, w', he, hs'⟩ := hrun a w hf hs
  simp only [Oper.wp, he, Oper.upon]
  exact hK _ _ (k x _ _ (hf.put (Nat.le_of_ble_eq_true hd) _) hs')
theorem WO.stepU {op : Op} {Γ' : List Asn}
    (hrun : ∀ a w, Fr N a L → Sat E w Γ → ∃ w', (execOp a.eval ⟨none, op, ty, pos, af, none⟩).run P w = .ok .skip w' ∧ Sat E w' Γ')
    (k : WO P N E l0.toArray rest L Γ' Q) : WO P N E l0.toArray (⟨none, op, ty, pos, af, none⟩ :: rest) L Γ Q := by
  intro a w hf hs
  refine wpList_plain rfl fun K hK => ?_
  obtain ⟨w', he, hs'⟩ := hrun a w hf hs
  simp only [Oper.wp, he, Oper.upon]
  exact hK _ _ (k a _ hf hs')
/-- a call of a function of the program -/
theorem WO.call {f : FuncId} {xs : List Operand} {ats : Array TypeId} {vs : List Value} {β : Type} {val : β → Value} {Γ' : β → List Asn} (hd : Nat.ble (d + 1) N = true) (he : Ent P f) (hx : evs L xs = some vs)
    (hc : CF P E f vs val Γ Γ') (k : ∀ x, WO P N E l0.toArray rest ((d, val x) :: L) (Γ' x) Q) :
    WO P N E l0.toArray (⟨some d, .call { callee := .value (.func f), args := xs.toArray, argTypes := ats }, ty, pos, af, none⟩ :: rest) L Γ Q := by
  intro a w hf hs
  refine wpList_plain rfl fun K hK => ?_
  have h1 : (execOp a.eval ⟨some d, .call { callee := .value (.func f), args := xs.toArray, argTypes := ats }, ty, pos, af, none⟩) = callFunc f vs.toArray := by
    rw [execOp_call_go]
    have := hf.evs hx
    simp [this]
  simp only [Oper.wp, h1, he vs.toArray w, Oper.upon]
  refine (hc w hs).mono fun e w' ⟨x, hv, hs'⟩ => ?_
  subst hv
  exact hK _ _ (k x _ _ (hf.put (Nat.le_of_ble_eq_true hd) _) hs')
/-- a call whose result is one value, in memory that stays -/
theorem WO.callV {f : FuncId} {xs : List Operand} {ats : Array TypeId} {vs : List Value} (hd : Nat.ble (d + 1) N = true) (he : Ent P f) (hx : evs L xs = some vs)
    (hc : ∀ w, Sat E w Γ → CP P f vs w (fun _ : Unit => v) (fun _ => [])) (k : WO P N E l0.toArray rest ((d, v) :: L) Γ Q) :
    WO P N E l0.toArray (⟨some d, .call { callee := .value (.func f), args := xs.toArray, argTypes := ats }, ty, pos, af, none⟩ :: rest) L Γ Q :=
  WO.call hd he hx (CP.cf hc) fun _ => k
theorem WO.callP {f : FuncId} {xs : List Operand} {ats : Array TypeId} {vs : List Value} {β : Type} {val : β → Value} {Δ : β → List Asn} (hd : Nat.ble (d + 1) N = true) (he : Ent P f) (hx : evs L xs = some vs)
    (hc : ∀ w, Sat E w Γ → CP P f vs w val Δ) (k : ∀ x, WO P N E l0.toArray rest ((d, val x) :: L) (Δ x ++ Γ) Q) :
    WO P N E l0.toArray (⟨some d, .call { callee := .value (.func f), args := xs.toArray, argTypes := ats }, ty, pos, af, none⟩ :: rest) L Γ Q :=
  WO.call hd he hx (CP.cf hc) k
/-! new variables -/
theorem WO.al {T n : Nat} {z : List Value} (hT : Zer P T (.agg z.toArray) n) (hd : Nat.ble (d + 1) N = true) (k : ∀ g, WO P N E l0.toArray rest ((d, .pointer (some ⟨g, 0, none⟩)) :: L) (.blk g (.cells z.toArray T (0, 0)) :: Γ) Q) :
    WO P N E l0.toArray (⟨some d, .alloc T, ty, pos, af, none⟩ :: rest) L Γ Q :=
  WO.stepE (val := fun g => .pointer (some ⟨g, 0, none⟩)) (Γ' := fun g => .blk g (.cells z.toArray T (0, 0)) :: Γ) hd (fun a w hf hs => by
    obtain ⟨i, hi, hz, hn⟩ := hT
    refine ⟨w.heap.size, w.alloc (.cells z.toArray T), ?_, hs.alloc _⟩
    simp [execOp, Instr.alloc, zeroValue, typeInfo, program, newVar, newRow, newObj, Sem.run_bind, Sem.run, hi, hz, Result.andThen, Value.cells]) k
theorem WO.al1 {T n : Nat} {z : Value} (hz1 : z.cells = #[z]) (hT : Zer P T z n) (hd : Nat.ble (d + 1) N = true) (k : ∀ g, WO P N E l0.toArray rest ((d, .pointer (some ⟨g, 0, none⟩)) :: L) (.blk g (.cells [z].toArray T (0, 0)) :: Γ) Q) :
    WO P N E l0.toArray (⟨some d, .alloc T, ty, pos, af, none⟩ :: rest) L Γ Q :=
  WO.stepE (val := fun g => .pointer (some ⟨g, 0, none⟩)) (Γ' := fun g => .blk g (.cells [z].toArray T (0, 0)) :: Γ) hd (fun a w hf hs => by
    obtain ⟨i, hi, hz, hn⟩ := hT
    refine ⟨w.heap.size, w.alloc (.cells [z].toArray T), ?_, hs.alloc _⟩
    simp [execOp, Instr.alloc, zeroValue, typeInfo, program, newVar, newRow, newObj, Sem.run_bind, Sem.run, hi, hz, Result.andThen, hz1]) k
theorem WO.bx {T : Nat} {x : Operand} {c : List Value} (hd : Nat.ble (d + 1) N = true) (hx : ev L x = some v) (hc : v.cells = c.toArray) (k : ∀ g, WO P N E l0.toArray rest ((d, .pointer (some ⟨g, 0, none⟩)) :: L) (.blk g (.cells c.toArray T (0, 0)) :: Γ) Q) :
    WO P N E l0.toArray (⟨some d, .box T x, ty, pos, af, none⟩ :: rest) L Γ Q :=
  WO.stepE (val := fun g => .pointer (some ⟨g, 0, none⟩)) (Γ' := fun g => .blk g (.cells c.toArray T (0, 0)) :: Γ) hd (fun a w hf hs => by
    refine ⟨w.heap.size, w.alloc (.cells c.toArray T), ?_, hs.alloc _⟩
    simp [execOp, hf.ev hx, Instr.box, newVar, newRow, newObj, Sem.run_bind, Sem.run, Result.andThen, hc]) k
/-! stores into a block of one's own -/
theorem stars_set : ∀ {Γ : List Asn} {k : Nat} {A B : Asn} {H : HP} {F : Nat → Prop}, Γ[k]? = some A → (stars Γ).h H F → (stars (A :: Γ.eraseIdx k)).h H F
  | [], k, A, B, H, F, e, _ => by simp at e
  | C :: Γ, 0, A, B, H, F, e, h => by simp at e; subst e; exact h
  | C :: Γ, k + 1, A, B, H, F, e, ⟨F1, F2, hs, c, r⟩ => stars_swap ⟨F1, F2, hs, c, stars_set (B := B) (by simpa using e) r⟩
theorem stars_put : ∀ {Γ : List Asn} {k : Nat} {A B : Asn} {H : HP} {F : Nat → Prop}, Γ[k]? = some A → (stars (B :: Γ.eraseIdx k)).h H F → (stars (Γ.set k B)).h H F
  | [], k, A, B, H, F, e, _ => by simp at e
  | C :: Γ, 0, A, B, H, F, e, h => h
  | C :: Γ, k + 1, A, B, H, F, e, h => by
    obtain ⟨F1, F2, hs, c, r⟩ := stars_swap h
    exact ⟨F1, F2, hs, c, stars_put (by simpa using e) r⟩
theorem Sat.setAt {w : World} {k g : Nat} {c : List Value} {T : TypeId} {Γ : List Asn} (h : Sat E w Γ) (e : Γ[k]? = some (.blk g (.cells c.toArray T (0, 0)))) (i : Nat) (u : Value) :
    Sat E (w.setCell ⟨g, i, none⟩ u) (Γ.set k (.blk g (.cells (c.set i u).toArray T (0, 0)))) := by
  have h1 : Sat E w (.blk g (.cells c.toArray T (0, 0)) :: Γ.eraseIdx k) := h.imp fun _ => stars_set (B := .emp) e
  have h2 := h1.set i u
  have h3 : c.toArray.setIfInBounds i u = (c.set i u).toArray := by simp
  rw [h3] at h2
  exact h2.imp fun _ => stars_put e
theorem store_one {T : TypeId} {g i : Nat} {w : World} {c : List Value} {T' : TypeId} {u : Value} (hT : ∃ inf, P.info? T = some inf ∧ inf.size = 1) (hu : u.cells = #[u]) (h : w.heap[g]? = some (.cells c.toArray T' (0, 0))) (hi : i < c.length) (hn : u.oneCell' = true) :
    (storeVar T ⟨g, i, none⟩ u).run P w = .ok () (w.setCell ⟨g, i, none⟩ u) := by
  obtain ⟨inf, h1, h2⟩ := hT
  have hc : w.cell? ⟨g, i, none⟩ = some (c[i]) := by rw [cell_of_row w g i c.toArray T' (0, 0) h]; simp [hi]
  have hz : w.frozen? ⟨g, i, none⟩ = false := by simp [World.frozen?, h]
  have ha : (⟨g, i, none⟩ : Addr).add 0 = ⟨g, i, none⟩ := rfl
  cases u <;> first
    | (simp [Value.oneCell'] at hn; done)
    | simp [storeVar, Sem.run_bind, sizeOf, typeInfo, program, Sem.run, h1, h2, hu, Result.andThen, storeCells, ha, store, hc, hz]
/-- the list with another element at a place, written out -/
inductive SetAt {α : Type} : Nat → List α → α → List α → Prop
  | z {a u : α} {r : List α} : SetAt 0 (a :: r) u (u :: r)
  | s {i : Nat} {a u : α} {r r' : List α} (h : SetAt i r u r') : SetAt (i + 1) (a :: r) u (a :: r')
theorem SetAt.eq {α : Type} {i : Nat} {l l' : List α} {u : α} (h : SetAt i l u l') : l.set i u = l' ∧ i < l.length := by
  induction h with
  | z => exact ⟨rfl, by simp⟩
  | s _ ih => exact ⟨by simp [ih.1], by simp [ih.2]⟩
theorem WO.stB {T T' k g i : Nat} {c c' : List Value} {x y : Operand} {u : Value} {Γ' : List Asn} (hT : One P T) (hx : ev L x = some (.pointer (some ⟨g, i, none⟩))) (hy : ev L y = some u) (hu : u.cells = #[u]) (hn : u.oneCell' = true)
    (hk : Γ[k]? = some (.blk g (.cells c.toArray T' (0, 0)))) (hc : SetAt i c u c') (hg : SetAt k Γ (.blk g (.cells c'.toArray T' (0, 0))) Γ')
    (h : WO P N E l0.toArray rest L Γ' Q) : WO P N E l0.toArray (⟨none, .store T x y, ty, pos, af, none⟩ :: rest) L Γ Q :=
  WO.stepU (fun a w hf hs => by
    obtain ⟨ds, inf, _, _, h1, h2⟩ := hT
    have hs' := hs.setAt hk i u
    rw [hc.eq.1, hg.eq.1] at hs'
    refine ⟨_, ?_, hs'⟩
    simp [execOp, hf.ev hx, hf.ev hy, Instr.storeAt, Instr.sureAddr, Sem.run_bind, Result.andThen, store_one ⟨inf, h1, h2⟩ hu (hs.blkAt hk) hc.eq.2 hn]) h
/-- a struct stored over a whole block -/
theorem WO.stW {T T' n k g : Nat} {c u : List Value} {x y : Operand} {Γ' : List Asn} (hT : Str P T n) (hx : ev L x = some (.pointer (some ⟨g, 0, none⟩))) (hy : ev L y = some (.agg u.toArray)) (hu : u.length = n) (hn : (u.all fun x => x.oneCell') = true)
    (hk : Γ[k]? = some (.blk g (.cells c.toArray T' (0, 0)))) (hl : c.length = n) (hg : SetAt k Γ (.blk g (.cells u.toArray T' (0, 0))) Γ')
    (h : WO P N E l0.toArray rest L Γ' Q) : WO P N E l0.toArray (⟨none, .store T x y, ty, pos, af, none⟩ :: rest) L Γ Q :=
  WO.stepU (fun a w hf hs => by
    obtain ⟨fs, i, hus, hi, hsz⟩ := hT
    have hb := hs.blkAt hk
    have h1 : Sat E w (.blk g (.cells c.toArray T' (0, 0)) :: Γ.eraseIdx k) := hs.imp fun _ => stars_set (B := .emp) hk
    have hst := run_storeCells_at P g 0 T' u 0 c.toArray w hb (by simp; omega) (by simpa using hn)
    have hs' : Sat E (w.setRow g u.toArray) Γ' := by
      have h2 : Sat E (w.setRow g u.toArray) (.blk g (.cells u.toArray T' (0, 0)) :: Γ.eraseIdx k) :=
        h1.turn rfl rfl rfl (setRow_heap w g _ _ T' _ hb) (fun b hb' => setRow_other w g b _ hb') (by simp [World.setRow])
      rw [← hg.eq.1]
      exact h2.imp fun _ => stars_put hk
    refine ⟨_, ?_, hs'⟩
    have e2 : c.drop (0 + u.length) = [] := List.drop_eq_nil_of_le (by omega)
    rw [e2] at hst
    simp only [List.take_zero, List.nil_append, List.append_nil, List.toList_toArray] at hst
    simp [execOp, hf.ev hx, hf.ev hy, Instr.storeAt, Instr.sureAddr, Sem.run_bind, Result.andThen, storeVar, sizeOf, typeInfo, program, Sem.run, hi, hsz, hu, Value.cells, hst, e2]) h
end Go.Proofs.YtfnaplhjkapghaaDoor.Sp
