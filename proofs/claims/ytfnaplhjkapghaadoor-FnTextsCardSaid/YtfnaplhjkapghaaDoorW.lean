/- Walking a function's operations by rules: known slots as a list, memory by assertions. -/
import Derived.Test.YtfnaplhjkapghaaDoorSp
import Derived.Orders
import Derived.OrdersHeld
import Derived.Deep.Quiet
import Derived.Deep.LoopGhost
set_option linter.unusedVariables false
set_option linter.unusedSimpArgs false
namespace Go.Proofs.YtfnaplhjkapghaaDoor.Sp
open Go Go.RowKit

/-! known slots -/
abbrev Slots := List (Nat × Value)
def lk (i : Nat) : Slots → Option Value
  | [] => none
  | (j, v) :: l => bif Nat.beq i j then some v else lk i l
def ev (L : Slots) : Operand → Option Value
  | .tmp t => lk t L
  | .const v => some v
  | .global g => some (.pointer (some ⟨g, 0, none⟩))
  | .func f => some (.func (.func f) #[] #[])
def evs (L : Slots) : List Operand → Option (List Value)
  | [] => some []
  | x :: l => match ev L x, evs L l with
    | some v, some vs => some (v :: vs)
    | _, _ => none
def sub (L : Slots) : Slots → Prop
  | [] => True
  | (i, v) :: r => lk i L = some v ∧ sub L r
def mkL : Nat → List Value → Slots
  | _, [] => []
  | i, v :: l => (i, v) :: mkL (i + 1) l
structure Fr (N : Nat) (a : Act) (L : Slots) : Prop where
  df : a.defers = []
  sz : a.tmps.size = N
  at_ : ∀ i v, lk i L = some v → a.tmps[i]? = some v
theorem lk_cons (i j : Nat) (v : Value) (l : Slots) : lk i ((j, v) :: l) = if i = j then some v else lk i l := by
  simp only [lk]
  by_cases h : i = j
  · subst h; simp
  · have e : Nat.beq i j = false := by cases hb : Nat.beq i j with | false => rfl | true => exact absurd (Nat.eq_of_beq_eq_true hb) h
    rw [e, if_neg h]; rfl
theorem Fr.ev {N : Nat} {a : Act} {L : Slots} (h : Fr N a L) {x : Operand} {v : Value} (e : ev L x = some v) : a.eval x = v := by
  cases x with
  | tmp t => have := h.at_ t v e; simp [Act.eval, this]
  | const u => exact Option.some.inj e
  | global g => exact Option.some.inj e
  | func f => exact Option.some.inj e
theorem Fr.evs {N : Nat} {a : Act} {L : Slots} (h : Fr N a L) : ∀ {xs : List Operand} {vs : List Value}, evs L xs = some vs → xs.map a.eval = vs
  | [], vs, e => by simp [Sp.evs] at e; subst e; rfl
  | x :: xs, vs, e => by
    simp only [Sp.evs] at e
    split at e
    · rename_i v us hv hus
      obtain rfl := Option.some.inj e
      rw [List.map_cons, h.ev hv, h.evs hus]
    · cases e
theorem Fr.put {N : Nat} {a : Act} {L : Slots} (h : Fr N a L) {d : Nat} (hd : d < N) (v : Value) : Fr N (a.put (some d) v) ((d, v) :: L) := by
  refine ⟨h.df, by simpa [Act.put] using h.sz, fun i u e => ?_⟩
  rw [lk_cons] at e
  simp only [Act.put]
  by_cases hi : i = d
  · subst hi
    rw [if_pos rfl] at e
    rw [Array.getElem?_setIfInBounds_self_of_lt (by rw [h.sz]; exact hd)]
    exact e
  · rw [if_neg hi] at e
    rw [Array.getElem?_setIfInBounds_ne (fun e => hi e.symm)]
    exact h.at_ i u e
theorem Fr.sub {N : Nat} {a : Act} {L L' : Slots} (h : Fr N a L) (s : sub L L') : Fr N a L' := by
  refine ⟨h.df, h.sz, ?_⟩
  induction L' with
  | nil => intro i v e; simp [lk] at e
  | cons p r ih =>
    obtain ⟨j, u⟩ := p
    intro i v e
    rw [lk_cons] at e
    by_cases hi : i = j
    · rw [if_pos hi] at e; subst hi; obtain rfl := Option.some.inj e; exact h.at_ _ _ s.1
    · rw [if_neg hi] at e; exact ih s.2 i v e
theorem Fr.re {N : Nat} {a : Act} {L : Slots} (h : Fr N a L) {t : Nat} {v : Value} (hv : lk t L = some v) : Fr N a ((t, v) :: L) := by
  refine ⟨h.df, h.sz, fun i u e => ?_⟩
  rw [lk_cons] at e
  by_cases hi : i = t
  · rw [if_pos hi] at e; subst hi; obtain rfl := Option.some.inj e; exact h.at_ _ _ hv
  · rw [if_neg hi] at e; exact h.at_ i u e
theorem lk_mkL : ∀ (vs : List Value) (k i : Nat), lk i (mkL k vs) = if k ≤ i then vs[i - k]? else none
  | [], k, i => by simp [mkL, lk]
  | v :: vs, k, i => by
    rw [mkL, lk_cons, lk_mkL vs (k + 1) i]
    by_cases h : i = k
    · subst h; simp
    · rw [if_neg h]
      by_cases h2 : k ≤ i
      · have e : i - k = (i - (k + 1)) + 1 := by omega
        rw [if_pos h2, if_pos (by omega), e, List.getElem?_cons_succ]
      · rw [if_neg h2, if_neg (by omega)]

/-! the judgements -/
variable (P : Program) (N : Nat) (E : Env)
/-- an exit's continuation, from known slots and memory -/
def KQ (Q : Exit → Act → World → Prop) (e : Exit) (L : Slots) (Γ : List Asn) : Prop := ∀ a w, Fr N a L → Sat E w Γ → Q e a w
def WC (c : Code) (L : Slots) (Γ : List Asn) (Q : Exit → Act → World → Prop) : Prop := ∀ a w, Fr N a L → Sat E w Γ → c.wp P Q a w
def WO (ops : Array Oper) (l : List Oper) (L : Slots) (Γ : List Asn) (Q : Exit → Act → World → Prop) : Prop := ∀ a w, Fr N a L → Sat E w Γ → wpList P ops Q l a w
/-- a call's contract -/
def CF (f : FuncId) (args : List Value) {β : Type} (val : β → Value) (Γ : List Asn) (Γ' : β → List Asn) : Prop :=
  ∀ w, Sat E w Γ → Calls P f args.toArray w fun e w' => ∃ x, e = .returned (val x) ∧ Sat E w' (Γ' x)
/-- a call's contract where the call only makes memory -/
def CP (f : FuncId) (args : List Value) (w : World) {β : Type} (val : β → Value) (Δ : β → List Asn) : Prop :=
  Calls P f args.toArray w fun e w' => ∃ x, e = .returned (val x) ∧ Sat (envOf w) w' (Δ x)
def Ent (f : FuncId) : Prop := ∀ (args : Array Value) (w : World), (callFunc f args).run P w = .ok (.enter f args) w
theorem ent_of {f : FuncId} {fn : Func} (h : P.funcs[f]? = some fn) (hn : (fn.name == "runtime.NumGoroutine") = false) (hb : fn.body.isNone = false) : Ent P f := by
  intro args w
  have hn' : fn.name ≠ "runtime.NumGoroutine" := by simpa using hn
  have hb' : fn.body ≠ none := fun e => by rw [e] at hb; cases hb
  simp [callFunc, program, Sem.run, h, hn', hb', Bind.bind, Sem.bind, Pure.pure]
variable {P N E}
theorem CP.cf {f : FuncId} {args : List Value} {β : Type} {val : β → Value} {Δ : β → List Asn} {Γ : List Asn} (h : ∀ w, Sat E w Γ → CP P f args w val Δ) : CF P E f args val Γ (fun x => Δ x ++ Γ) :=
  fun w hw => (h w hw).mono fun _ _ ⟨x, he, hs⟩ => ⟨x, he, hw.call hs⟩

/-! code -/
section
variable {L : Slots} {Γ : List Asn} {Q : Exit → Act → World → Prop}
theorem WC.seq {c d : Code} (h : WC P N E c L Γ (Exit.then (d.wp P Q) Q)) : WC P N E (.seq c d) L Γ Q := fun a w hf hs => wp_seq (h a w hf hs)
theorem WC.region {id : Nat} {l : List Oper} (h : WO P N E l.toArray l L Γ Q) : WC P N E (.region id l.toArray false) L Γ Q := fun a w hf hs => wp_region_lit (h a w hf hs)
theorem WC.skip (h : KQ N E Q .normal L Γ) : WC P N E .skip L Γ Q := fun a w hf hs => wp_skip (h a w hf hs)
theorem WC.ret (h : KQ N E Q .ret L Γ) : WC P N E .ret L Γ Q := fun a w hf hs => wp_ret (h a w hf hs)
theorem WC.exit {id : Nat} (h : KQ N E Q (.exit id) L Γ) : WC P N E (.exit id) L Γ Q := fun a w hf hs => wp_exit (h a w hf hs)
theorem WC.block {id : Nat} {c : Code} (h : WC P N E c L Γ (Exit.inBlock id Q)) : WC P N E (.block id c) L Γ Q := fun a w hf hs => wp_block (h a w hf hs)
theorem WC.cond {x : Operand} {c d : Code} {b : Bool} (hx : ev L x = some (.bool b)) (ht : b = true → WC P N E c L Γ Q) (hf : b = false → WC P N E d L Γ Q) : WC P N E (.cond x c d) L Γ Q :=
  fun a w hr hs => wp_cond_split (hr.ev hx) (fun h => ht h a w hr hs) (fun h => hf h a w hr hs)
theorem WC.condT {x : Operand} {c d : Code} (hx : ev L x = some (.bool true)) (ht : WC P N E c L Γ Q) : WC P N E (.cond x c d) L Γ Q := fun a w hr hs => wp_cond_true (hr.ev hx) (ht a w hr hs)
theorem WC.condF {x : Operand} {c d : Code} (hx : ev L x = some (.bool false)) (hf : WC P N E d L Γ Q) : WC P N E (.cond x c d) L Γ Q := fun a w hr hs => wp_cond_false (hr.ev hx) (hf a w hr hs)
theorem WC.wk {c : Code} {L' : Slots} {Γ' : List Asn} (hl : sub L L') (hg : ∀ w, Sat E w Γ → Sat E w Γ') (h : WC P N E c L' Γ' Q) : WC P N E c L Γ Q := fun a w hr hs => h a w (hr.sub hl) (hg w hs)
theorem WC.perm {c : Code} {Γ' : List Asn} (p : Γ.Perm Γ') (h : WC P N E c L Γ' Q) : WC P N E c L Γ Q := fun a w hr hs => h a w hr (hs.perm p)
theorem WO.perm {ops : Array Oper} {l : List Oper} {Γ' : List Asn} (p : Γ.Perm Γ') (h : WO P N E ops l L Γ' Q) : WO P N E ops l L Γ Q := fun a w hr hs => h a w hr (hs.perm p)
theorem WO.wk {ops : Array Oper} {l : List Oper} {L' : Slots} {Γ' : List Asn} (hl : sub L L') (hg : ∀ w, Sat E w Γ → Sat E w Γ') (h : WO P N E ops l L' Γ' Q) : WO P N E ops l L Γ Q := fun a w hr hs => h a w (hr.sub hl) (hg w hs)
theorem WO.mem {ops : Array Oper} {l : List Oper} {Γ' : List Asn} (hg : ∀ w, Sat E w Γ → Sat E w Γ') (h : WO P N E ops l L Γ' Q) : WO P N E ops l L Γ Q := fun a w hr hs => h a w hr (hg w hs)
theorem WC.mem {c : Code} {Γ' : List Asn} (hg : ∀ w, Sat E w Γ → Sat E w Γ') (h : WC P N E c L Γ' Q) : WC P N E c L Γ Q := fun a w hr hs => h a w hr (hg w hs)
/-- what the memory says of a fact without memory -/
theorem WO.fact {ops : Array Oper} {l : List Oper} {p : Prop} (hg : ∀ w, Sat E w Γ → p) (h : p → WO P N E ops l L Γ Q) : WO P N E ops l L Γ Q := fun a w hr hs => h (hg w hs) a w hr hs
theorem WC.fact {c : Code} {p : Prop} (hg : ∀ w, Sat E w Γ → p) (h : p → WC P N E c L Γ Q) : WC P N E c L Γ Q := fun a w hr hs => h (hg w hs) a w hr hs
theorem WO.open {ops : Array Oper} {l : List Oper} {ι : Type} {A : ι → Asn} (h : ∀ i, WO P N E ops l L (A i :: Γ) Q) : WO P N E ops l L (.ex A :: Γ) Q := fun a w hr hs => let ⟨i, hs⟩ := hs.ex1; h i a w hr hs
theorem WC.open {c : Code} {ι : Type} {A : ι → Asn} (h : ∀ i, WC P N E c L (A i :: Γ) Q) : WC P N E c L (.ex A :: Γ) Q := fun a w hr hs => let ⟨i, hs⟩ := hs.ex1; h i a w hr hs
/-- a loop: at each round's head the slots and the memory are those of some state; each round lowers the measure -/
def Again {σ : Type} (N : Nat) (E : Env) (Lf : σ → Slots) (Γf : σ → List Asn) (m : σ → Nat) (s : σ) (a : Act) (w : World) : Prop := ∃ t, Fr N a (Lf t) ∧ Sat E w (Γf t) ∧ m t < m s
theorem WC.loop {σ : Type} (Lf : σ → Slots) (Γf : σ → List Asn) (m : σ → Nat) (s0 : σ) {c : Code} (hl : sub L (Lf s0)) (hg : ∀ w, Sat E w Γ → Sat E w (Γf s0))
    (h : ∀ s, WC P N E c (Lf s) (Γf s) (Exit.then (Again N E Lf Γf m s) Q)) : WC P N E (.loop c) L Γ Q := by
  intro a w hr hs
  refine wp_loop_ghost (fun n a w => ∃ s, m s = n ∧ Fr N a (Lf s) ∧ Sat E w (Γf s)) (m s0) ⟨s0, rfl, hr.sub hl, hg w hs⟩ ?_
  rintro n a w ⟨s, rfl, hf, hs⟩
  refine wp_mono (h s a w hf hs) fun e a w q => ?_
  cases e with
  | normal => obtain ⟨t, hf', hg', hlt⟩ := q; exact ⟨_, hlt, t, rfl, hf', hg'⟩
  | _ => exact q
/-! exits -/
theorem KQ.seq {d : Code} {Q' : Exit → Act → World → Prop} (h : WC P N E d L Γ Q) : KQ N E (Exit.then (d.wp P Q) Q') .normal L Γ := h
theorem KQ.thenX {K : Act → World → Prop} {id : Nat} (h : KQ N E Q (.exit id) L Γ) : KQ N E (Exit.then K Q) (.exit id) L Γ := h
theorem KQ.thenR {K : Act → World → Prop} (h : KQ N E Q .ret L Γ) : KQ N E (Exit.then K Q) .ret L Γ := h
theorem KQ.blockN {id : Nat} (h : KQ N E Q .normal L Γ) : KQ N E (Exit.inBlock id Q) .normal L Γ := h
theorem KQ.blockR {id : Nat} (h : KQ N E Q .ret L Γ) : KQ N E (Exit.inBlock id Q) .ret L Γ := h
theorem KQ.blockX {id : Nat} (h : KQ N E Q .normal L Γ) : KQ N E (Exit.inBlock id Q) (.exit id) L Γ := fun a w hr hs => by simp only [Exit.inBlock, if_true]; exact h a w hr hs
theorem KQ.blockY {id id' : Nat} (hne : Nat.beq id' id = false) (h : KQ N E Q (.exit id') L Γ) : KQ N E (Exit.inBlock id Q) (.exit id') L Γ := fun a w hr hs => by
  have : id' ≠ id := fun e => by subst e; simp at hne
  simp only [Exit.inBlock, if_neg this]; exact h a w hr hs
theorem KQ.again {σ : Type} {Lf : σ → Slots} {Γf : σ → List Asn} {m : σ → Nat} {s : σ} {Q' : Exit → Act → World → Prop} (t : σ) (hm : m t < m s) (hl : sub L (Lf t)) (hg : ∀ w, Sat E w Γ → Sat E w (Γf t)) :
    KQ N E (Exit.then (Again N E Lf Γf m s) Q') .normal L Γ := fun a w hr hs => ⟨t, hr.sub hl, hg w hs, hm⟩
theorem WO.nil {ops : Array Oper} (h : KQ N E Q .normal L Γ) : WO P N E ops [] L Γ Q := fun a w hr hs => wpList_nil (h a w hr hs)
/-- the values that a function hands back -/
inductive Res (P : Program) (E : Env) (L : Slots) (Γ : List Asn) : List ResultVar → List Value → Prop
  | nil : Res P E L Γ [] []
  | tmp {t : Nat} {v : Value} {rs : List ResultVar} {vs : List Value} (h : lk t L = some v) (k : Res P E L Γ rs vs) : Res P E L Γ (.tmp t :: rs) (v :: vs)
  | cell {t : Nat} {ty : TypeId} {p : Addr} {v : Value} {rs : List ResultVar} {vs : List Value} (h : lk t L = some (.pointer (some p))) (hl : ∀ w, Sat E w Γ → (loadVar ty p).run P w = .ok v w) (k : Res P E L Γ rs vs) : Res P E L Γ (.cell t ty :: rs) (v :: vs)
def tupV : List Value → Value
  | [v] => v
  | vs => .tuple vs.toArray
def resG (a : Act) : ResultVar → Sem Value
  | .tmp t => pure (a.tmps.getD t undef)
  | .cell x t => do loadVar t (← asAddr (a.tmps.getD x undef))
theorem res_list {a : Act} (hr : Fr N a L) {w : World} (hs : Sat E w Γ) {rs : List ResultVar} {vs : List Value} (e : Res P E L Γ rs vs) : (rs.mapM (resG a)).run P w = .ok vs w := by
  induction e with
  | nil => rfl
  | tmp h k ih =>
    have h1 := hr.at_ _ _ h
    rw [List.mapM_cons]
    simp only [Sem.run_bind, ih, resG, Sem.run_pure, Result.andThen_ok]
    simp [h1]
  | @cell t ty p v rs vs h hl k ih =>
    have h1 := hr.at_ _ _ h
    have h2 := hl w hs
    rw [List.mapM_cons]
    have h3 : a.tmps.getD t undef = .pointer (some p) := by simpa using congrArg (fun o => o.getD undef) h1
    simp only [Sem.run_bind, resG, h3, asAddr, Sem.run_pure, Result.andThen_ok, h2, ih]
theorem res_run {fn : Func} {a : Act} (hr : Fr N a L) {rs : List ResultVar} (hf : fn.results = rs.toArray) {vs : List Value} {w : World} (hs : Sat E w Γ) (e : Res P E L Γ rs vs) :
    (results fn a.tmps).run P w = .ok (tupV vs) w := by
  have h2 := res_list hr hs e
  have h3 : results fn a.tmps = (do let us ← rs.toArray.mapM (resG a); pure (if h : us.size = 1 then us[0] else .tuple us) : Sem Value) := by
    unfold results
    rw [hf]
    congr 1
  rw [h3]
  simp only [List.mapM_toArray, Sem.run_bind, Sem.run_map, h2, Result.andThen_ok, Sem.run_pure]
  cases vs with
  | nil => rfl
  | cons v vs => cases vs <;> rfl
theorem KQ.fin {fn : Func} {R : Ending → World → Prop} {rs : List ResultVar} {vs : List Value} (hf : fn.results = rs.toArray) (hv : Res P E L Γ rs vs) (h : ∀ w, Sat E w Γ → R (.returned (tupV vs)) w) :
    KQ N E (bodyPost P fn R) .ret L Γ := fun a w hr hs => ⟨hr.df, tupV vs, res_run hr hf hs hv, h w hs⟩
theorem KQ.finN {fn : Func} {R : Ending → World → Prop} {rs : List ResultVar} {vs : List Value} (hf : fn.results = rs.toArray) (hv : Res P E L Γ rs vs) (h : ∀ w, Sat E w Γ → R (.returned (tupV vs)) w) :
    KQ N E (bodyPost P fn R) .normal L Γ := fun a w hr hs => ⟨hr.df, tupV vs, res_run hr hf hs hv, h w hs⟩
end
/-- into a function's body -/
theorem enter {f : FuncId} {fn : Func} {c : Code} {args : List Value} {R : Ending → World → Prop} {w : World} {Γ : List Asn} (hf : P.funcs[f]? = some fn) (hb : fn.body = some c) (hn : fn.ntmps = N) (hz : Nat.ble args.length N = true)
    (hs : Sat E w Γ) (h : WC P N E c (mkL 0 args) Γ (bodyPost P fn R)) : Calls P f args.toArray w R := by
  have hz' : args.length ≤ N := Nat.le_of_ble_eq_true hz
  refine calls_of_wp hf hb (h _ w ⟨rfl, ?_, fun i v e => ?_⟩ hs)
  · simp [hn]; omega
  · rw [lk_mkL] at e
    simp only [Nat.zero_le, if_true, Nat.sub_zero] at e
    have hi : i < args.length := (List.getElem?_eq_some_iff.1 e).1
    rw [Array.getElem?_append_left (by simpa using hi)]
    simpa using e
end Go.Proofs.YtfnaplhjkapghaaDoor.Sp
