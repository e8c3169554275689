/- The library's contracts met by the rules; interface values that are errors. -/
import Derived.Test.YtfnaplhjkapghaaDoorTx
import Derived.LaidEql
import Derived.WideLaws
import Derived.Lib.ConvBytes
import Derived.Lib.AtoiErrMem
set_option linter.unusedVariables false
set_option linter.unusedSimpArgs false
namespace Go.Proofs.YtfnaplhjkapghaaDoor.Sp
open Go Go.RowKit
variable {P : Program} {N : Nat} {E : Env} {l0 : List Oper} {rest : List Oper} {L : Slots} {Γ : List Asn} {Q : Exit → Act → World → Prop}
variable {d : Nat} {ty : TypeId} {pos : String} {af : Array Edge} {v : Value}
theorem sat_below {w w' : World} (h : Below w.heap.size w w') : Sat (envOf w) w' [] := (Sat.start w).step h.os h.tape h.output h.block h.size
def IsErr (v : Value) : Prop := v = .nilIface ∨ ∃ t x, v = .iface t x
def isNil : Value → Bool
  | .nilIface => true
  | _ => false
def Ifc (P : Program) (T : TypeId) : Prop := P.underlying T = some (.interface (P.methodsAt T))
theorem Val.neN {T T' : TypeId} {x : Operand} {u : Value} (hT : Ifc P T) (hx : Is L x u) (hu : IsErr u) : Val P N E L Γ (.binOp .neq T x (.const .nilIface) T') (.bool (!isNil u)) :=
  fun _ _ _ _ a w hf _ => by
    have h1 := run_equal_nil_nil (P := P) w T hT
    rcases hu with rfl | ⟨t, z, rfl⟩
    · have e1 : a.eval x = .nilIface := hf.is hx
      have e2 : a.eval (.const .nilIface) = .nilIface := rfl
      simp only [execOp, e1, e2]
      simp [eqGuard, binOp, Sem.run_bind, Result.andThen, h1, isNil]
    · have h2 := run_equal_held_nil (P := P) w T t z hT
      have e1 : a.eval x = .iface t z := hf.is hx
      have e2 : a.eval (.const .nilIface) = .nilIface := rfl
      simp only [execOp, e1, e2]
      simp [eqGuard, binOp, Sem.run_bind, Result.andThen, h2, isNil]
theorem Val.mki {T : TypeId} {x : Operand} {u : Value} (hT : P.concrete T = true) (hx : Is L x u) : Val P N E L Γ (.makeInterface T x) (.iface T u) :=
  fun _ _ _ _ a w hf _ => by simp [execOp, hf.is hx, run_makeInterface w T u hT, Sem.run_bind, Result.andThen]
/-- an integer type whose values are errors -/
def Eri (P : Program) (T : TypeId) (k : IntKind) : Prop := ∃ i, P.underlying T = some (.int k) ∧ P.info? T = some i ∧ i.comparable = true
theorem Eri.of {T : TypeId} {k : IntKind} (h1 : P.underlying T = some (.int k)) (h2 : (P.info? T).map (·.comparable) = some true) : Eri P T k := by
  cases h : P.info? T with
  | none => rw [h] at h2; cases h2
  | some i => rw [h] at h2; exact ⟨i, h1, h, by simpa using h2⟩
theorem run_equal_ifn {T tn : TypeId} {k : IntKind} (w : World) (hT : Ifc P T) (hn : Eri P tn k) (a b : Int) : (Op.equal T (.iface tn (.int k a)) (.iface tn (.int k b))).run P w = .ok (a == b) w := by
  obtain ⟨i, h1, h2, h3⟩ := hn
  have h : ∀ d, (Op.equalIn (d + 2) T (.iface tn (.int k a)) (.iface tn (.int k b))).run P w = .ok (a == b) w := fun d => by
    simp [Op.equalIn, run_underlying hT, run_underlying h1, typeInfo, h2, h3]
  exact h 9998
theorem Val.eqE {T T' tn : TypeId} {k : IntKind} {x y : Operand} {a b : Int} (hT : Ifc P T) (hn : Eri P tn k) (hx : Is L x (.iface tn (.int k a))) (hy : Is L y (.iface tn (.int k b))) : Val P N E L Γ (.binOp .eql T x y T') (.bool (a == b)) :=
  fun _ _ _ _ ac w hf _ => by
    have h1 := run_equal_ifn (P := P) w hT hn a b
    simp [execOp, hf.is hx, hf.is hy, eqGuard, binOp, Sem.run_bind, Result.andThen, h1]
theorem Val.neE {T T' tn : TypeId} {k : IntKind} {x y : Operand} {a b : Int} (hT : Ifc P T) (hn : Eri P tn k) (hx : Is L x (.iface tn (.int k a))) (hy : Is L y (.iface tn (.int k b))) : Val P N E L Γ (.binOp .neq T x y T') (.bool (!(a == b))) :=
  fun _ _ _ _ ac w hf _ => by
    have h1 := run_equal_ifn (P := P) w hT hn a b
    simp [execOp, hf.is hx, hf.is hy, eqGuard, binOp, Sem.run_bind, Result.andThen, h1]
/-- a text's bytes in a block of their own -/
def Byt (g : Nat) (s : List UInt8) : Asn := .ex fun p : Array Value × Nat × (Nat × Nat) => .star (.pu (∀ j (h : j < s.length), p.1[j]? = some (vB s[j]))) (.blk g (.cells p.1 p.2.1 p.2.2))
theorem sat_bytes (w : World) (e : TypeId) (s : List UInt8) : Sat (envOf w) (Lib.bytesWorld w e ⟨s.toArray⟩) [Byt w.heap.size s] := by
  have h1 : Sat (envOf w) (w.drew.alloc (.cells (Lib.bytesCells w e ⟨s.toArray⟩) e)) [.blk w.heap.size (.cells (Lib.bytesCells w e ⟨s.toArray⟩) e)] := (Sat.start w).drew.alloc _
  have h2 : Sat (envOf w) (Lib.bytesWorld w e ⟨s.toArray⟩) [.blk w.heap.size (.cells (Lib.bytesCells w e ⟨s.toArray⟩) e ((Lib.bytesCells w e ⟨s.toArray⟩).size, (Lib.bytesCells w e ⟨s.toArray⟩).size + 1))] := by
    refine h1.turn rfl rfl rfl (Lib.bytesWorld_at_new w e _) (fun b hb => ?_) ?_
    · rcases Nat.lt_or_gt_of_ne hb with h | h
      · rw [Lib.bytesWorld_at_old w e _ b h]
        exact (Below.heap_alloc w.drew _ b h).symm
      · rw [Array.getElem?_eq_none (by rw [Lib.bytesWorld_size]; omega), Array.getElem?_eq_none (by simp [World.drew, -World.drew_eq]; omega)]
    · rw [Lib.bytesWorld_size]; simp [World.drew, -World.drew_eq]
  refine Sat.exI (_, e, _) (Sat.starI (Sat.pureI (fun j hj => ?_) h2))
  have := Lib.bytesWorld_cell w e ⟨s.toArray⟩ j hj
  simp only [World.cell?, Lib.bytesWorld_at_new] at this
  rw [show (⟨s.toArray⟩ : ByteArray).data.toList.getD j 0 = s[j] from by simp [List.getD, hj]] at this
  exact this
theorem Sat.byt {w : World} {g : Nat} {s : List UInt8} (h : Sat E w (Byt g s :: Γ)) {j : Nat} (hj : j < s.length) : w.cell? ⟨g, j, .none⟩ = some (vB s[j]) := by
  obtain ⟨⟨c, T, z⟩, h⟩ := h.ex1
  have h := h.star1
  obtain ⟨hc, h⟩ := h.pure1
  have hb := h.blk
  simp only [World.cell?, hb]
  simpa using hc j hj
theorem WO.cvB {src dst e : TypeId} {x : Operand} {s : List UInt8} (hs : P.underlying src = some .string) (hdst : P.underlying dst = some (.slice e)) (he : P.underlying e = some (.int .u8)) (hd : Nat.ble (d + 1) N = true) (hx : ev L x = some (str s))
    (k : ∀ g c, WO P N E l0.toArray rest ((d, .slice (some ⟨g, 0, none⟩) s.length c) :: L) (Byt g s :: Γ) Q) : WO P N E l0.toArray (⟨some d, .convert src dst x, ty, pos, af, none⟩ :: rest) L Γ Q :=
  WO.stepE (val := fun p : Nat × Nat => .slice (some ⟨p.1, 0, none⟩) s.length p.2) (Γ' := fun p => Byt p.1 s :: Γ) hd (fun a w hf hw => by
    refine ⟨(w.heap.size, grownCap w s.length 0 e), Lib.bytesWorld w e ⟨s.toArray⟩, ?_, hw.call (sat_bytes w e s)⟩
    simp only [execOp, hf.ev hx, str, Sem.run_bind, Lib.run_convert_string_bytes w src dst e ⟨s.toArray⟩ hs hdst he, Result.andThen_ok, Sem.run_pure]
    rfl) fun p => k p.1 p.2
end Go.Proofs.YtfnaplhjkapghaaDoor.Sp
