/- The rules of the single operations. -/
import Derived.Test.YtfnaplhjkapghaaDoorW
set_option linter.unusedVariables false
set_option linter.unusedSimpArgs false
namespace Go.Proofs.YtfnaplhjkapghaaDoor.Sp
open Go Go.RowKit
variable {P : Program} {N : Nat} {E : Env} {l0 : List Oper} {rest : List Oper} {L : Slots} {Γ : List Asn} {Q : Exit → Act → World → Prop}
variable {d : Nat} {ty : TypeId} {pos : String} {af : Array Edge} {v : Value}
/-- an operation that yields a value, in whatever frame and world are as told -/
theorem WO.step {op : Op} {Γ' : List Asn} (hd : Nat.ble (d + 1) N = true)
    (hrun : ∀ a w, Fr N a L → Sat E w Γ → ∃ w', (execOp a.eval ⟨some d, op, ty, pos, af, none⟩).run P w = .ok (.value v) w' ∧ Sat E w' Γ')
    (k : WO P N E l0.toArray rest ((d, v) :: L) Γ' Q) : WO P N E l0.toArray (⟨some d, op, ty, pos, af, none⟩ :: rest) L Γ Q := by
  intro a w hf hs
  refine wpList_plain rfl fun K hK => ?_
  obtain ⟨w', he, hs'⟩ := hrun a w hf hs
  simp only [Oper.wp, he, Oper.upon]
  exact hK _ _ (k _ _ (hf.put (Nat.le_of_ble_eq_true hd) v) hs')
theorem WO.pure {op : Op} (hd : Nat.ble (d + 1) N = true)
    (hrun : ∀ a w, Fr N a L → Sat E w Γ → (execOp a.eval ⟨some d, op, ty, pos, af, none⟩).run P w = .ok (.value v) w)
    (k : WO P N E l0.toArray rest ((d, v) :: L) Γ Q) : WO P N E l0.toArray (⟨some d, op, ty, pos, af, none⟩ :: rest) L Γ Q :=
  WO.step hd (fun a w hf hs => ⟨w, hrun a w hf hs, hs⟩) k
/-- guards -/
theorem WO.gT {dd : Option Nat} {op : Op} {j t : Nat} {b : Bool} (hj : ((l0[j]?).bind (·.dst)) = some t) (hv : lk t L = some (.bool b)) (k : WO P N E l0.toArray (⟨dd, op, ty, pos, af, none⟩ :: rest) L Γ Q) :
    WO P N E l0.toArray (⟨dd, op, ty, pos, af, some (j, b)⟩ :: rest) L Γ Q := by
  intro a w hf hs
  have h := k a w hf hs
  have hy : yielded l0.toArray a.tmps j = some b := by
    unfold yielded
    have : (l0.toArray[j]?).bind (·.dst) = some t := by simpa using hj
    rw [this, Option.bind_some, hf.at_ t _ hv]
  unfold wpList at h ⊢
  rw [if_pos (by simp [Region.wanted])] at h
  rw [if_pos (by simp [Region.wanted, hy])]
  exact h
theorem WO.gF {op : Op} {j t : Nat} {b b' : Bool} (hd : Nat.ble (d + 1) N = true) (hj : ((l0[j]?).bind (·.dst)) = some t) (hv : lk t L = some (.bool b')) (hb : (b' == b) = false) (k : WO P N E l0.toArray rest ((d, undef) :: L) Γ Q) :
    WO P N E l0.toArray (⟨some d, op, ty, pos, af, some (j, b)⟩ :: rest) L Γ Q := by
  intro a w hf hs
  have hy : yielded l0.toArray a.tmps j = some b' := by
    unfold yielded
    have : (l0.toArray[j]?).bind (·.dst) = some t := by simpa using hj
    rw [this, Option.bind_some, hf.at_ t _ hv]
  unfold wpList
  rw [if_neg (by simp [Region.wanted, hy]; intro e; subst e; simp at hb)]
  exact k _ _ (hf.put (Nat.le_of_ble_eq_true hd) _) hs
/-- a test's two ways -/
theorem WO.split {t : Nat} {b : Bool} (hv : lk t L = some (.bool b)) {ops : Array Oper} (hT : b = true → WO P N E ops rest ((t, .bool true) :: L) Γ Q) (hF : b = false → WO P N E ops rest ((t, .bool false) :: L) Γ Q) : WO P N E ops rest L Γ Q := by
  intro a w hf hs
  cases b with
  | true => exact hT rfl a w (hf.re hv) hs
  | false => exact hF rfl a w (hf.re hv) hs

/-- the value of an operation behind a guard -/
def gv (b : Bool) (v : Value) : Value := bif b then v else undef
/-- what an operand is, behind a guard too -/
def Is (L : Slots) (x : Operand) (u : Value) : Prop := ∃ u', ev L x = some u' ∧ u' = u
theorem Is.r {x : Operand} {u : Value} (h : ev L x = some u) : Is L x u := ⟨u, h, rfl⟩
theorem Is.g {x : Operand} {u : Value} {c : Bool} (hc : c = true) (h : ev L x = some (gv c u)) : Is L x u := ⟨_, h, by subst hc; rfl⟩
theorem gl {c e : Bool} (h : (c && e) = true) : c = true := by cases c <;> simp_all
theorem Fr.is {a : Act} (h : Fr N a L) {x : Operand} {u : Value} (e : Is L x u) : a.eval x = u := let ⟨_, h1, h2⟩ := e; (h.ev h1).trans h2
/-- an operation yields v where the frame and the memory are as told -/
def Val (P : Program) (N : Nat) (E : Env) (L : Slots) (Γ : List Asn) (op : Op) (v : Value) : Prop :=
  ∀ d ty pos af a w, Fr N a L → Sat E w Γ → (execOp a.eval ⟨some d, op, ty, pos, af, none⟩).run P w = .ok (.value v) w
theorem WO.val {op : Op} (h : Val P N E L Γ op v) (hd : Nat.ble (d + 1) N = true) (k : WO P N E l0.toArray rest ((d, v) :: L) Γ Q) : WO P N E l0.toArray (⟨some d, op, ty, pos, af, none⟩ :: rest) L Γ Q :=
  WO.pure hd (fun a w hf hs => h d ty pos af a w hf hs) k

theorem WO.gd {op : Op} {j t : Nat} {b want : Bool} (hj : ((l0[j]?).bind (·.dst)) = some t) (hv : lk t L = some (.bool b)) (hd : Nat.ble (d + 1) N = true) (h : (b == want) = true → Val P N E L Γ op v)
    (k : WO P N E l0.toArray rest ((d, gv (b == want) v) :: L) Γ Q) : WO P N E l0.toArray (⟨some d, op, ty, pos, af, some (j, want)⟩ :: rest) L Γ Q := by
  by_cases hb : b = want
  · subst hb
    have e : gv (b == b) v = v := by cases b <;> rfl
    refine WO.gT hj hv (WO.val (h (by simp)) hd ?_)
    rw [e] at k; exact k
  · have e : (b == want) = false := by cases b <;> cases want <;> simp at hb ⊢
    refine WO.gF hd hj hv e ?_
    rw [e] at k; exact k
/-- behind a guard that is itself behind one -/
theorem WO.gdN {op : Op} {j t : Nat} {c b want : Bool} (hj : ((l0[j]?).bind (·.dst)) = some t) (hv : lk t L = some (gv c (.bool b))) (hd : Nat.ble (d + 1) N = true) (h : (c && (b == want)) = true → Val P N E L Γ op v)
    (k : WO P N E l0.toArray rest ((d, gv (c && (b == want)) v) :: L) Γ Q) : WO P N E l0.toArray (⟨some d, op, ty, pos, af, some (j, want)⟩ :: rest) L Γ Q := by
  cases c with
  | true => exact WO.gd hj hv hd h k
  | false =>
    intro a w hf hs
    have hy : yielded l0.toArray a.tmps j = none := by
      unfold yielded
      have : (l0.toArray[j]?).bind (·.dst) = some t := by simpa using hj
      rw [this, Option.bind_some, hf.at_ t _ hv]; rfl
    unfold wpList
    rw [if_neg (by simp [Region.wanted, hy])]
    exact k _ _ (hf.put (Nat.le_of_ble_eq_true hd) _) hs
theorem Val.mv {x : Operand} (hx : Is L x v) : Val P N E L Γ (.move x) v := fun _ _ _ _ a w hf _ => by simp [execOp, hf.is hx]
theorem Val.asg {x : Operand} (hx : Is L x v) : Val P N E L Γ (.assign x) v := fun _ _ _ _ a w hf _ => by simp [execOp, hf.is hx]
theorem Val.pick {c x y : Operand} {b : Bool} {u u' : Value} (hc : Is L c (.bool b)) (hx : ev L x = some u) (hy : ev L y = some u') (he : (bif b then u else u') = v) : Val P N E L Γ (.pick c x y) v :=
  fun _ _ _ _ a w hf _ => by subst he; cases b <;> simp [execOp, hf.is hc, hf.ev hx, hf.ev hy, asBool]
/-- `b && q`, q behind the guard b -/
theorem Val.and {c x : Operand} {b q : Bool} (hc : ev L c = some (.bool b)) (hx : ev L x = some (gv (b == true) (.bool q))) : Val P N E L Γ (.pick c x (.const (.bool false))) (.bool (b && q)) :=
  Val.pick (.r hc) hx rfl (by cases b <;> rfl)
theorem Val.or {c y : Operand} {b q : Bool} (hc : ev L c = some (.bool b)) (hy : ev L y = some (gv (b == false) (.bool q))) : Val P N E L Γ (.pick c (.const (.bool true)) y) (.bool (b || q)) :=
  Val.pick (.r hc) rfl hy (by cases b <;> rfl)
theorem Val.andN {c x : Operand} {e b q : Bool} (he : e = true) (hc : ev L c = some (gv e (.bool b))) (hx : ev L x = some (gv (e && (b == true)) (.bool q))) : Val P N E L Γ (.pick c x (.const (.bool false))) (.bool (b && q)) :=
  Val.pick (.g he hc) hx rfl (by subst he; cases b <;> rfl)
theorem Val.orN {c y : Operand} {e b q : Bool} (he : e = true) (hc : ev L c = some (gv e (.bool b))) (hy : ev L y = some (gv (e && (b == false)) (.bool q))) : Val P N E L Γ (.pick c (.const (.bool true)) y) (.bool (b || q)) :=
  Val.pick (.g he hc) rfl hy (by subst he; cases b <;> rfl)
theorem Val.ext {x : Operand} {i : Nat} {vs : Array Value} (hx : Is L x (.tuple vs)) (hi : vs[i]? = some v) : Val P N E L Γ (.extract x i) v := fun _ _ _ _ a w hf _ => by simp [execOp, hf.is hx, Instr.extract, hi]
theorem Val.nck {x : Operand} {p : Addr} (hx : Is L x (.pointer (some p))) : Val P N E L Γ (.nilCheck x) (.pointer (some p)) := fun _ _ _ _ a w hf _ => by simp [execOp, hf.is hx]
theorem Val.nt {x : Operand} {T : TypeId} {b : Bool} (hx : Is L x (.bool b)) : Val P N E L Γ (.unOp .not T x) (.bool (!b)) := fun _ _ _ _ a w hf _ => by simp [execOp, hf.is hx, Op.unary]
theorem Val.ng {x : Operand} {T : TypeId} {n : Int} {k : IntKind} (hx : Is L x (.int k n)) : Val P N E L Γ (.unOp .neg T x) (.int k (k.wrap (0 - n))) := fun _ _ _ _ a w hf _ => by simp [execOp, hf.is hx, Op.unary, Op.intArith]
/-! arithmetic and comparisons -/
def pbin (op : BinOp) : Value → Value → Option Value
  | .int k a, .int k' b =>
    match op with
    | .shl => if 0 ≤ b then some (.int k (k.wrap (a * 2 ^ (min b.toNat k.bits)))) else none
    | .shr => if 0 ≤ b then some (.int k (a.fdiv (2 ^ (min b.toNat k.bits)))) else none
    | .add => if k = k' then some (.int k (k.wrap (a + b))) else none
    | .sub => if k = k' then some (.int k (k.wrap (a - b))) else none
    | .mul => if k = k' then some (.int k (k.wrap (a * b))) else none
    | .quo => if k = k' ∧ b ≠ 0 then some (.int k (k.wrap (a.tdiv b))) else none
    | .rem => if k = k' ∧ b ≠ 0 then some (.int k (a.tmod b)) else none
    | .eql => if k = k' then some (.bool (a == b)) else none
    | .neq => if k = k' then some (.bool (a != b)) else none
    | .lss => if k = k' then some (.bool (a < b)) else none
    | .leq => if k = k' then some (.bool (a ≤ b)) else none
    | .gtr => if k = k' then some (.bool (a > b)) else none
    | .geq => if k = k' then some (.bool (a ≥ b)) else none
    | .and => if k = k' then some (.int k (k.wrap (BitVec.ofInt k.bits a &&& BitVec.ofInt k.bits b).toNat)) else none
    | .or => if k = k' then some (.int k (k.wrap (BitVec.ofInt k.bits a ||| BitVec.ofInt k.bits b).toNat)) else none
    | .xor => if k = k' then some (.int k (k.wrap (BitVec.ofInt k.bits a ^^^ BitVec.ofInt k.bits b).toNat)) else none
    | .andNot => if k = k' then some (.int k (k.wrap (BitVec.ofInt k.bits a &&& ~~~BitVec.ofInt k.bits b).toNat)) else none
  | .string a, .string b =>
    match op with
    | .eql => some (.bool (a.toList == b.toList))
    | .neq => some (.bool !(a.toList == b.toList))
    | .add => if a.size + b.size ≤ 9223372036854775807 then some (.string (a ++ b)) else none
    | _ => none
  | _, _ => none
theorem pbin_run {op : BinOp} {x y : Value} {T : TypeId} (ox oy : Operand) (h : pbin op x y = some v) (w : World) : (do eqGuard op T ox oy x y; binOp op T x y : Sem Value).run P w = .ok v w := by
  unfold pbin at h
  split at h
  · rename_i k a k' b
    cases op <;> simp only [] at h <;> first | (cases h; done) | skip
    all_goals
      split at h
      · rename_i hc
        obtain rfl := Option.some.inj h
        simp_all [eqGuard, binOp, Op.intArith, Op.intCmp, Op.intDiv, Op.intBits, Op.shift, Sem.run_bind, Result.andThen]
        try omega
      · cases h
  · rename_i a b
    cases op <;> simp only [] at h <;> first | (cases h; done) | skip
    all_goals first
      | (obtain rfl := Option.some.inj h; simp [eqGuard, binOp, Op.stringOp, Sem.run_bind, Result.andThen]; done)
      | (split at h
         · rename_i hc; obtain rfl := Option.some.inj h
           simp [eqGuard, binOp, Op.stringOp, Sem.run_bind, Result.andThen]; omega
         · cases h)
  · cases h
theorem Val.bin {op : BinOp} {T T' : TypeId} {x y : Operand} {u u' : Value} (hx : Is L x u) (hy : Is L y u') (hv : pbin op u u' = some v) : Val P N E L Γ (.binOp op T x y T') v :=
  fun _ _ _ _ a w hf _ => by
    have := pbin_run (P := P) (T := T) x y hv w
    simp only [execOp, hf.is hx, hf.is hy]
    simp only [Sem.run_bind] at this ⊢
    rw [this]; rfl
theorem Val.cvi {src dst : TypeId} {x : Operand} {k0 k1 : IntKind} {n : Int} {ds : TypeDesc} (hs : P.underlying src = some ds) (ht : P.underlying dst = some (.int k1)) (hx : Is L x (.int k0 n)) (hv : .int k1 (k1.wrap n) = v) : Val P N E L Γ (.convert src dst x) v :=
  fun _ _ _ _ a w hf _ => by subst hv; simp [execOp, hf.is hx, convert, run_underlying hs, run_underlying ht, Conv.intToInt, Sem.run_bind, Result.andThen]
end Go.Proofs.YtfnaplhjkapghaaDoor.Sp
