/- Regions that draw their order and leave the memory as it is: one walk in the order of the text. -/
import Derived.Test.YtfnaplhjkapghaaDoorMd
set_option linter.unusedVariables false
set_option linter.unusedSimpArgs false
namespace Go.Proofs.YtfnaplhjkapghaaDoor.Sp
open Go Go.RowKit
variable {P : Program} {N : Nat} {E : Env} {l0 : List Oper} {rest : List Oper} {L : Slots} {Γ : List Asn} {Q : Exit → Act → World → Prop}
variable {d : Nat} {ty : TypeId} {pos : String} {af : Array Edge} {v : Value}
def WQ (P : Program) (N : Nat) (E : Env) (l0 : List Oper) (l : List Oper) (L : Slots) (Γ : List Asn) (Q : Exit → Act → World → Prop) : Prop :=
  ∀ a, Fr N a L → wpQuiet P l0.toArray (fun w => Sat E w Γ) (fun a' => ∀ w', Sat E w' Γ → Q .normal a' w') l a
theorem WC.quiet {id : Nat} {l : List Oper} (hm : P.follows .mixedOrders = true) (hB : Region.lexB .any l.toArray = true) (h : WQ P N E l l L Γ Q) : WC P N E (.region id l.toArray true) L Γ Q :=
  fun a w hf hs => wp_region_quiet (C := fun w => Sat E w Γ) hm hB (show Sat E w.drew Γ from hs.drew) (by simpa using h a hf)
theorem WQ.nil (h : KQ N E Q .normal L Γ) : WQ P N E l0 [] L Γ Q := fun a hf => wpQuiet_nil fun w' hw' => h a w' hf hw'
theorem WQ.val {op : Op} (h : Val P N E L Γ op v) (hd : Nat.ble (d + 1) N = true) (k : WQ P N E l0 rest ((d, v) :: L) Γ Q) : WQ P N E l0 (⟨some d, op, ty, pos, af, none⟩ :: rest) L Γ Q := fun a hf => by
  unfold wpQuiet
  rw [if_pos (by simp [Region.wanted])]
  refine ⟨v, fun w hw => ?_, k _ (hf.put (Nat.le_of_ble_eq_true hd) v)⟩
  unfold Oper.quietAt
  rw [h d ty pos af a w hf hw]
  exact ⟨rfl, rfl⟩
theorem WQ.gT {op : Op} {j t : Nat} {b : Bool} (hj : ((l0[j]?).bind (·.dst)) = some t) (hv : lk t L = some (.bool b)) (k : WQ P N E l0 (⟨some d, op, ty, pos, af, none⟩ :: rest) L Γ Q) :
    WQ P N E l0 (⟨some d, op, ty, pos, af, some (j, b)⟩ :: rest) L Γ Q := fun a hf => by
  have h := k a hf
  have hy : yielded l0.toArray a.tmps j = some b := by
    unfold yielded
    have : (l0.toArray[j]?).bind (·.dst) = some t := by simpa using hj
    rw [this, Option.bind_some, hf.at_ t _ hv]
  unfold wpQuiet at h ⊢
  rw [if_pos (by simp [Region.wanted])] at h
  rw [if_pos (by simp [Region.wanted, hy])]
  exact h
theorem WQ.gF {op : Op} {j t : Nat} {b b' : Bool} (hd : Nat.ble (d + 1) N = true) (hj : ((l0[j]?).bind (·.dst)) = some t) (hv : lk t L = some (.bool b')) (hb : (b' == b) = false) (k : WQ P N E l0 rest ((d, undef) :: L) Γ Q) :
    WQ P N E l0 (⟨some d, op, ty, pos, af, some (j, b)⟩ :: rest) L Γ Q := fun a hf => by
  have hy : yielded l0.toArray a.tmps j = some b' := by
    unfold yielded
    have : (l0.toArray[j]?).bind (·.dst) = some t := by simpa using hj
    rw [this, Option.bind_some, hf.at_ t _ hv]
  unfold wpQuiet
  rw [if_neg (by simp [Region.wanted, hy]; intro e; subst e; simp at hb)]
  exact k _ (hf.put (Nat.le_of_ble_eq_true hd) _)
theorem WQ.gd {op : Op} {j t : Nat} {b want : Bool} (hj : ((l0[j]?).bind (·.dst)) = some t) (hv : lk t L = some (.bool b)) (hd : Nat.ble (d + 1) N = true) (h : (b == want) = true → Val P N E L Γ op v)
    (k : WQ P N E l0 rest ((d, gv (b == want) v) :: L) Γ Q) : WQ P N E l0 (⟨some d, op, ty, pos, af, some (j, want)⟩ :: rest) L Γ Q := by
  by_cases hb : b = want
  · subst hb
    have e : gv (b == b) v = v := by cases b <;> rfl
    refine WQ.gT hj hv (WQ.val (h (by simp)) hd ?_)
    rw [e] at k; exact k
  · have e : (b == want) = false := by cases b <;> cases want <;> simp at hb ⊢
    refine WQ.gF hd hj hv e ?_
    rw [e] at k; exact k
theorem WQ.gdN {op : Op} {j t : Nat} {c b want : Bool} (hj : ((l0[j]?).bind (·.dst)) = some t) (hv : lk t L = some (gv c (.bool b))) (hd : Nat.ble (d + 1) N = true) (h : (c && (b == want)) = true → Val P N E L Γ op v)
    (k : WQ P N E l0 rest ((d, gv (c && (b == want)) v) :: L) Γ Q) : WQ P N E l0 (⟨some d, op, ty, pos, af, some (j, want)⟩ :: rest) L Γ Q := by
  cases c with
  | true => exact WQ.gd hj hv hd h k
  | false =>
    intro a hf
    have hy : yielded l0.toArray a.tmps j = none := by
      unfold yielded
      have : (l0.toArray[j]?).bind (·.dst) = some t := by simpa using hj
      rw [this, Option.bind_some, hf.at_ t _ hv]; rfl
    unfold wpQuiet
    rw [if_neg (by simp [Region.wanted, hy])]
    exact k _ (hf.put (Nat.le_of_ble_eq_true hd) _)
/-- what a call that leaves no memory behind comes to -/
def CV (P : Program) (f : FuncId) (args : List Value) (w : World) (v : Value) : Prop := Calls P f args.toArray w fun e w' => e = .returned v ∧ Sat (envOf w) w' []
theorem CV.cp {f : FuncId} {args : List Value} {w : World} (h : CV P f args w v) : CP P f args w (fun _ : Unit => v) (fun _ => []) := Calls.mono h fun _ _ ⟨he, hs⟩ => ⟨(), he, hs⟩
theorem CV.of {f : FuncId} {args : List Value} {w : World} (h : CP P f args w (fun _ : Unit => v) (fun _ => [])) : CV P f args w v := Calls.mono h fun _ _ ⟨_, he, hs⟩ => ⟨he, hs⟩
theorem WQ.callV {f : FuncId} {xs : List Operand} {ats : Array TypeId} {vs : List Value} (hd : Nat.ble (d + 1) N = true) (he : Ent P f) (hx : evs L xs = some vs) (hc : ∀ w, Sat E w Γ → CV P f vs w v) (k : WQ P N E l0 rest ((d, v) :: L) Γ Q) :
    WQ P N E l0 (⟨some d, .call { callee := .value (.func f), args := xs.toArray, argTypes := ats }, ty, pos, af, none⟩ :: rest) L Γ Q := fun a hf => by
  unfold wpQuiet
  rw [if_pos (by simp [Region.wanted])]
  refine ⟨v, fun w hw => ?_, k _ (hf.put (Nat.le_of_ble_eq_true hd) v)⟩
  unfold Oper.quietAt
  rw [execOp_call_go]
  have := hf.evs hx
  have e : (#[] ++ xs.toArray.map a.eval ++ #[] : Array Value) = vs.toArray := by simp [this]
  rw [e, he vs.toArray w]
  exact ⟨rfl, (hc w hw).mono fun _ _ ⟨h1, h2⟩ => ⟨h1, by simpa using hw.call h2⟩⟩
theorem WO.callS {f : FuncId} {xs : List Operand} {ats : Array TypeId} {vs : List Value} (hd : Nat.ble (d + 1) N = true) (he : Ent P f) (hx : evs L xs = some vs) (hc : ∀ w, Sat E w Γ → CV P f vs w v) (k : WO P N E l0.toArray rest ((d, v) :: L) Γ Q) :
    WO P N E l0.toArray (⟨some d, .call { callee := .value (.func f), args := xs.toArray, argTypes := ats }, ty, pos, af, none⟩ :: rest) L Γ Q :=
  WO.callV hd he hx (fun w hw => (hc w hw).cp) k
/-- a text's length -/
theorem Val.lenT {T : TypeId} {x : Operand} {s : List UInt8} (hT : P.underlying T = some .string) (hx : Is L x (str s)) : Val P N E L Γ (.call { callee := .builtin .len, args := #[x], argTypes := #[T] }) (.int .i64 s.length) := Val.lenS hT hx
/-- texts -/
theorem Val.eqS {T T' : TypeId} {x y : Operand} {a b : List UInt8} (hx : Is L x (str a)) (hy : Is L y (str b)) : Val P N E L Γ (.binOp .eql T x y T') (.bool (a == b)) :=
  Val.bin hx hy (by show some (Value.bool ((ByteArray.mk a.toArray).toList == (ByteArray.mk b.toArray).toList)) = _; rw [ByteArray.toList_mk, ByteArray.toList_mk])
theorem Val.neS {T T' : TypeId} {x y : Operand} {a b : List UInt8} (hx : Is L x (str a)) (hy : Is L y (str b)) : Val P N E L Γ (.binOp .neq T x y T') (.bool (!(a == b))) :=
  Val.bin hx hy (by show some (Value.bool (!((ByteArray.mk a.toArray).toList == (ByteArray.mk b.toArray).toList))) = _; rw [ByteArray.toList_mk, ByteArray.toList_mk])
theorem str_append (a b : List UInt8) : (⟨a.toArray⟩ ++ ⟨b.toArray⟩ : ByteArray) = ⟨(a ++ b).toArray⟩ := by
  apply ByteArray.ext; simp
theorem Val.addS {T T' : TypeId} {x y : Operand} {a b : List UInt8} (hx : Is L x (str a)) (hy : Is L y (str b)) (h : a.length + b.length ≤ 9223372036854775807) : Val P N E L Γ (.binOp .add T x y T') (str (a ++ b)) :=
  Val.bin hx hy (by
    show (if (ByteArray.mk a.toArray).size + (ByteArray.mk b.toArray).size ≤ 9223372036854775807 then some (Value.string (⟨a.toArray⟩ ++ ⟨b.toArray⟩ : ByteArray)) else none) = _
    rw [if_pos (by exact h), str_append]; rfl)
/-- bools compared -/
theorem run_eq_bool {T : TypeId} {a b : Bool} (hu : P.underlying T = some .bool) (w : World) : (Op.equal T (.bool a) (.bool b)).run P w = .ok (a == b) w := by
  have h : ∀ n, (Op.equalIn (n + 1) T (.bool a) (.bool b)).run P w = .ok (a == b) w := fun n => by
    unfold Op.equalIn
    simp [Sem.run_bind, run_underlying hu, Result.andThen]
  exact h 9999
theorem Val.bne {T T' : TypeId} {x y : Operand} {a b : Bool} (hu : P.underlying T = some .bool) (hx : Is L x (.bool a)) (hy : Is L y (.bool b)) : Val P N E L Γ (.binOp .neq T x y T') (.bool (a != b)) :=
  fun _ _ _ _ ac w hf _ => by
    have h := run_eq_bool (a := a) (b := b) hu w
    simp only [execOp, hf.is hx, hf.is hy, eqGuard, binOp]
    simp [Sem.run_bind, h, Result.andThen, bne]
    cases a <;> cases b <;> rfl
theorem Val.beq {T T' : TypeId} {x y : Operand} {a b : Bool} (hu : P.underlying T = some .bool) (hx : Is L x (.bool a)) (hy : Is L y (.bool b)) : Val P N E L Γ (.binOp .eql T x y T') (.bool (a == b)) :=
  fun _ _ _ _ ac w hf _ => by
    have h := run_eq_bool (a := a) (b := b) hu w
    simp only [execOp, hf.is hx, hf.is hy, eqGuard, binOp]
    simp [Sem.run_bind, h, Result.andThen]
end Go.Proofs.YtfnaplhjkapghaaDoor.Sp
