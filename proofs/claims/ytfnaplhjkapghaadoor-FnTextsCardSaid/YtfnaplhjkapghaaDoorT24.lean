/- A part of the proofs of this seat: contracts of the functions that its statements reach. -/
import Derived.Test.YtfnaplhjkapghaaDoorJn
import Derived.Test.YtfnaplhjkapghaaDoorT23
import Derived.Test.YtfnaplhjkapghaaDoorProg
set_option linter.unusedVariables false
set_option linter.unusedSimpArgs false
set_option maxRecDepth 4000
namespace Go.Proofs.YtfnaplhjkapghaaDoor
open Go Go.RowKit Go.Proofs.YtfnaplhjkapghaaDoor.Sp
theorem fld_62_1 : Fld Tryd.prog 62 1 1 := .of (by kernel_rfl)
theorem fld_62_0 : Fld Tryd.prog 62 0 0 := .of (by kernel_rfl)
theorem one_28 : One Tryd.prog 28 := .of (by kernel_rfl)
theorem fld_62_2 : Fld Tryd.prog 62 2 2 := .of (by kernel_rfl)
theorem one_53 : One Tryd.prog 53 := .of (by kernel_rfl)
theorem ent_37 : Ent Tryd.prog 37 := ent_of Tryd.prog Tryd.func37 rfl rfl
theorem ent_38 : Ent Tryd.prog 38 := ent_of Tryd.prog Tryd.func38 rfl rfl
theorem ent_53 : Ent Tryd.prog 53 := ent_of Tryd.prog Tryd.func53 rfl rfl
theorem ent_72 : Ent Tryd.prog 72 := ent_of Tryd.prog Tryd.func72 rfl rfl

def Cur (g : Nat) (A : Option Addr) (m c B : Nat) : Asn := .ex fun p : Nat × Int => .star (.pu (p.1 ≤ B)) (.blk g (.cells [.slice A m c, .int .i64 (p.1 : Int), .int .u64 p.2].toArray 62 (0, 0)))
theorem Sp.Sat.curI {E : Env} {w : World} {Γ : List Asn} {g : Nat} {A : Option Addr} {m c B k : Nat} {z : Int} (hk : k ≤ B) (h : Sat E w (.blk g (.cells [.slice A m c, .int .i64 (k : Int), .int .u64 z].toArray 62 (0, 0)) :: Γ)) : Sat E w (Cur g A m c B :: Γ) :=
  Sat.exI (k, z) (Sat.starI (Sat.pureI hk h))
theorem Sp.Sat.cur1 {E : Env} {w : World} {Γ : List Asn} {g : Nat} {A : Option Addr} {m c B : Nat} (h : Sat E w (Cur g A m c B :: Γ)) : ∃ (k : Nat) (z : Int), k ≤ B ∧ Sat E w (.blk g (.cells [.slice A m c, .int .i64 (k : Int), .int .u64 z].toArray 62 (0, 0)) :: Γ) := by
  obtain ⟨⟨k, z⟩, h⟩ := h.ex1
  obtain ⟨hk, h⟩ := h.star1.pure1
  exact ⟨k, z, hk, h⟩
theorem Sp.Sat.curM {E : Env} {w : World} {Γ : List Asn} {g : Nat} {A : Option Addr} {m c B B' : Nat} (hB : B ≤ B') (h : Sat E w (Cur g A m c B :: Γ)) : Sat E w (Cur g A m c B' :: Γ) := by
  obtain ⟨k, z, hk, h⟩ := h.cur1
  exact Sat.curI (by omega) h
def DC (f : FuncId) (args : List Value) {β : Type} (val : β → Value) (k : Nat) (F : β → Prop) : Prop :=
  ∀ (E : Env) (Γ : List Asn) (g : Nat) (A : Option Addr) (c B : Nat) (l : List UInt8), RdL E.H0 rB A l → B + k ≤ 1152921504606846976 → CF Tryd.prog E f (.pointer (some ⟨g, 0, none⟩) :: args) val (Cur g A l.length c B :: Γ) (fun x => .pu (F x) :: Cur g A l.length c (B + k) :: Γ)
theorem drawF {E : Env} {w : World} {Γ : List Asn} {g : Nat} {A : Option Addr} {m c B B' : Nat} {p : Prop} (hp : p) (hB : B ≤ B') (h : Sat E w (Cur g A m c B :: Γ)) : Sat E w (.pu p :: Cur g A m c B' :: Γ) := Sat.pureI hp (Sat.curM hB h)
theorem WO.draw {N : Nat} {E : Env} {l0 rest : List Oper} {L : Slots} {Γ Γ' : List Asn} {Q : Exit → Act → World → Prop} {d : Nat} {ty : TypeId} {pos : String} {af : Array Edge} {f : FuncId} {xs : List Operand} {ats : Array TypeId} {args : List Value} {β : Type} {val : β → Value} {k : Nat} {F : β → Prop} {g : Nat} {A : Option Addr} {c B : Nat} {l : List UInt8}
    (q : Nat) (p : PullAt q Γ (Cur g A l.length c B) Γ') (hd : Nat.ble (d + 1) N = true) (he : Ent Tryd.prog f) (hx : evs L xs = some (.pointer (some ⟨g, 0, none⟩) :: args)) (h : DC f args val k F) (hr : RdL E.H0 rB A l) (hB : B + k ≤ 1152921504606846976)
    (K : ∀ x, F x → WO Tryd.prog N E l0.toArray rest ((d, val x) :: L) (Cur g A l.length c (B + k) :: Γ') Q) :
    WO Tryd.prog N E l0.toArray (⟨some d, .call { callee := .value (.func f), args := xs.toArray, argTypes := ats }, ty, pos, af, none⟩ :: rest) L Γ Q :=
  WO.pull q p (WO.call hd he hx (h E Γ' g A c B l hr hB) fun x => WO.fact (fun w hw => (Sat.pure1 hw).1) fun hF => WO.drop (K x hF))
theorem u8c (b : UInt8) : Value.int .i64 (IntKind.i64.wrap (b.toNat : Int)) = .int .i64 (b.toNat : Int) := by have := b.toNat_lt; rw [wrap_in (by omega) (by omega)]
theorem and255 (a : Int) : 0 ≤ IntKind.i64.wrap (IntKind.u64.wrap ((BitVec.ofInt IntKind.u64.bits a &&& BitVec.ofInt IntKind.u64.bits 255).toNat : Int)) ∧ IntKind.i64.wrap (IntKind.u64.wrap ((BitVec.ofInt IntKind.u64.bits a &&& BitVec.ofInt IntKind.u64.bits 255).toNat : Int)) ≤ 255 := by
  have h : (BitVec.ofInt IntKind.u64.bits a &&& BitVec.ofInt IntKind.u64.bits 255).toNat ≤ 255 := by
    rw [BitVec.toNat_and]
    exact Nat.le_trans Nat.and_le_right (by decide)
  rw [show IntKind.u64.wrap ((BitVec.ofInt IntKind.u64.bits a &&& BitVec.ofInt IntKind.u64.bits 255).toNat : Int) = ((BitVec.ofInt IntKind.u64.bits a &&& BitVec.ofInt IntKind.u64.bits 255).toNat : Int) from by rw [IntKind.wrap_u64]; omega]
  rw [wrap_in (by omega) (by omega)]
  omega
theorem pb_rem {a n : Int} (h : n ≠ 0) : pbin .rem (.int .i64 a) (.int .i64 n) = some (.int .i64 (a.tmod n)) := by
  show (if IntKind.i64 = IntKind.i64 ∧ n ≠ 0 then some (Value.int .i64 (a.tmod n)) else none) = _
  rw [if_pos ⟨rfl, h⟩]
def pickOk (n x : Int) : Prop := 0 ≤ x ∧ (x < n ∨ x = 0)
theorem pick_mod {a n : Int} (ha : 0 ≤ a) (hn : 1 < n) : pickOk n (a.tmod n) := by
  have h1 : 0 ≤ a.tmod n := Int.tmod_nonneg n ha
  have h2 : a.tmod n < n := Int.tmod_lt_of_pos a (by omega)
  exact ⟨h1, .inl h2⟩

theorem cvU {a : Int} (h0 : 0 ≤ a) (h1 : a ≤ 1048576) : Value.int .u64 (IntKind.u64.wrap a) = .int .u64 a := by rw [IntKind.wrap_u64]; congr 1; omega
theorem pb_shrU {a b : Int} (h0 : 0 ≤ b) (h1 : b ≤ 1048576) : pbin .shr (.int .i64 a) (.int .u64 b) = some (.int .i64 (a.fdiv (2 ^ (min b.toNat IntKind.i64.bits)))) := by
  show (if 0 ≤ b then some (Value.int .i64 (a.fdiv (2 ^ (min b.toNat IntKind.i64.bits)))) else none) = _
  rw [if_pos h0]
theorem pb_shlU {a b : Int} (h0 : 0 ≤ b) (h1 : b ≤ 1048576) : pbin .shl (.int .i64 a) (.int .u64 b) = some (.int .i64 (IntKind.i64.wrap (a * 2 ^ (min b.toNat IntKind.i64.bits)))) := by
  show (if 0 ≤ b then some (Value.int .i64 (IntKind.i64.wrap (a * 2 ^ (min b.toNat IntKind.i64.bits)))) else none) = _
  rw [if_pos h0]

/-! (*spec.l1Cur).next -/
theorem nextD : DC 53 [] (fun x : Int => .int .i64 x) 1 (fun x => 0 ≤ x ∧ x ≤ 255) := by
  intro E Γ g A c B l hr hB w hw
  obtain ⟨k, z, hk0, hw⟩ := hw.cur1
  refine enter Tryd.func53 rfl rfl rfl hw ?_
  simp only [mkL]
  refine WC.seq ?_
  refine WC.region ?_
  refine WO.val (.asg (.r rfl)) rfl ?_
  refine WO.nil ?_
  refine KQ.seq ?_
  refine WC.seq ?_
  refine WC.region ?_
  refine WO.val (.asg (.r rfl)) rfl ?_
  refine WO.nil ?_
  refine KQ.seq ?_
  refine WC.seq ?_
  refine WC.seq ?_
  refine WC.quiet (by kernel_rfl) (by kernel_rfl) ?_
  refine WQ.val (.mv (.r rfl)) rfl ?_
  refine WQ.val (.nck (.r rfl)) rfl ?_
  refine WQ.val (.faL fld_62_1 (.r rfl) rfl) rfl ?_
  refine WQ.val (.ldB (k := 0) one_3 (.r rfl) rfl rfl) rfl ?_
  refine WQ.val (.mv (.r rfl)) rfl ?_
  refine WQ.val (.nck (.r rfl)) rfl ?_
  refine WQ.val (.faL fld_62_0 (.r rfl) rfl) rfl ?_
  refine WQ.val (.ldB (k := 0) one_28 (.r rfl) rfl rfl) rfl ?_
  refine WQ.val (.len sli_28 (.r rfl)) rfl ?_
  refine WQ.val (.bin (.r rfl) (.r rfl) rfl) rfl ?_
  refine WQ.nil ?_
  refine KQ.seq ?_
  refine WC.cond rfl (fun c1 => ?_) (fun c1 => ?_)
  · have hk := lt_of_dec c1
    obtain ⟨ad, rfl, cs, rfl, hcell⟩ := hr k hk
    have hb := l[k].toNat_lt
    refine WC.quiet (by kernel_rfl) (by kernel_rfl) ?_
    refine WQ.val (.mv (.r rfl)) rfl ?_
    refine WQ.val (.nck (.r rfl)) rfl ?_
    refine WQ.val (.faL fld_62_0 (.r rfl) rfl) rfl ?_
    refine WQ.val (.ldB (k := 0) one_28 (.r rfl) rfl rfl) rfl ?_
    refine WQ.val (.mv (.r rfl)) rfl ?_
    refine WQ.val (.nck (.r rfl)) rfl ?_
    refine WQ.val (.faL fld_62_1 (.r rfl) rfl) rfl ?_
    refine WQ.val (.ldB (k := 0) one_3 (.r rfl) rfl rfl) rfl ?_
    refine WQ.val (.ixn sli_28 (.r rfl) (.r rfl) hk) rfl ?_
    refine WQ.val (.ld one_5 (.r rfl) (fun w hw => hw.cell (hcell 0 _ rfl))) rfl ?_
    refine WQ.val (.cvi Tryd.underlying5 Tryd.underlying3 (.r rfl) (u8c l[k])) rfl ?_
    refine WQ.val (.asg (.r rfl)) rfl ?_
    refine WQ.nil ?_
    refine KQ.seq ?_
    refine WC.seq ?_
    refine WC.region ?_
    refine WO.val (.mv (.r rfl)) rfl ?_
    refine WO.val (.nck (.r rfl)) rfl ?_
    refine WO.val (.faL fld_62_1 (.r rfl) rfl) rfl ?_
    refine WO.val (.ldB (k := 0) one_3 (.r rfl) rfl rfl) rfl ?_
    refine WO.val (.bin (.r rfl) (.r rfl) (pb_inc (by omega))) rfl ?_
    refine WO.val (.nck (.r rfl)) rfl ?_
    refine WO.val (.faL fld_62_1 (.r rfl) rfl) rfl ?_
    refine WO.stB (k := 0) one_3 rfl rfl rfl rfl rfl (by repeat constructor) (by repeat constructor) ?_
    refine WO.nil ?_
    refine KQ.seq ?_
    refine WC.seq ?_
    refine WC.region ?_
    refine WO.val (.mv (.r rfl)) rfl ?_
    refine WO.val (.mv (.r rfl)) rfl ?_
    refine WO.val (.nck (.r rfl)) rfl ?_
    refine WO.val (.faL fld_62_2 (.r rfl) rfl) rfl ?_
    refine WO.val (.ldB (k := 0) one_53 (.r rfl) rfl rfl) rfl ?_
    refine WO.val (.bin (.r rfl) (.r rfl) rfl) rfl ?_
    refine WO.val (.mv (.r rfl)) rfl ?_
    refine WO.val (.cvi Tryd.underlying3 Tryd.underlying53 (.r rfl) rfl) rfl ?_
    refine WO.val (.bin (.r rfl) (.r rfl) rfl) rfl ?_
    refine WO.val (.bin (.r rfl) (.r rfl) rfl) rfl ?_
    refine WO.val (.nck (.r rfl)) rfl ?_
    refine WO.val (.faL fld_62_2 (.r rfl) rfl) rfl ?_
    refine WO.stB (k := 0) one_53 rfl rfl rfl rfl rfl (by repeat constructor) (by repeat constructor) ?_
    refine WO.nil ?_
    refine KQ.seq ?_
    refine WC.seq ?_
    refine WC.seq ?_
    refine WC.quiet (by kernel_rfl) (by kernel_rfl) ?_
    refine WQ.val (.mv (.r rfl)) rfl ?_
    refine WQ.val (.nck (.r rfl)) rfl ?_
    refine WQ.val (.faL fld_62_1 (.r rfl) rfl) rfl ?_
    refine WQ.val (.ldB (k := 0) one_3 (.r rfl) rfl rfl) rfl ?_
    refine WQ.val (.mv (.r rfl)) rfl ?_
    refine WQ.val (.nck (.r rfl)) rfl ?_
    refine WQ.val (.faL fld_62_0 (.r rfl) rfl) rfl ?_
    refine WQ.val (.ldB (k := 0) one_28 (.r rfl) rfl rfl) rfl ?_
    refine WQ.val (.len sli_28 (.r rfl)) rfl ?_
    refine WQ.val (.bin (.r rfl) (.r rfl) rfl) rfl ?_
    refine WQ.nil ?_
    refine KQ.seq ?_
    refine WC.cond rfl (fun c2 => ?_) (fun c2 => ?_)
    · refine WC.seq ?_
      refine WC.region ?_
      refine WO.val (.mv (.r rfl)) rfl ?_
      refine WO.val (.asg (.r rfl)) rfl ?_
      refine WO.nil ?_
      refine KQ.seq ?_
      refine WC.ret ?_
      exact KQ.thenR (KQ.fin rfl (.tmp rfl .nil) (fun w hw => ⟨_, rfl, Sat.pureI (⟨by omega, by omega⟩) (Sat.curI (k := k + 1) (by omega) hw)⟩))
    · refine WC.skip ?_
      refine KQ.seq ?_
      refine WC.seq ?_
      refine WC.region ?_
      refine WO.val (.mv (.r rfl)) rfl ?_
      refine WO.val (.nck (.r rfl)) rfl ?_
      refine WO.val (.faL fld_62_2 (.r rfl) rfl) rfl ?_
      refine WO.val (.ldB (k := 0) one_53 (.r rfl) rfl rfl) rfl ?_
      refine WO.val (.bin (.r rfl) (.r rfl) rfl) rfl ?_
      refine WO.val (.bin (.r rfl) (.r rfl) rfl) rfl ?_
      refine WO.val (.cvi Tryd.underlying53 Tryd.underlying3 (.r rfl) rfl) rfl ?_
      refine WO.val (.asg (.r rfl)) rfl ?_
      refine WO.nil ?_
      refine KQ.seq ?_
      refine WC.ret ?_
      exact KQ.fin rfl (.tmp rfl .nil) (fun w hw => ⟨_, rfl, Sat.pureI (and255 _) (Sat.curI (k := k + 1) (by omega) hw)⟩)
  · refine WC.skip ?_
    refine KQ.seq ?_
    refine WC.seq ?_
    refine WC.region ?_
    refine WO.val (.mv (.r rfl)) rfl ?_
    refine WO.val (.nck (.r rfl)) rfl ?_
    refine WO.val (.faL fld_62_1 (.r rfl) rfl) rfl ?_
    refine WO.val (.ldB (k := 0) one_3 (.r rfl) rfl rfl) rfl ?_
    refine WO.val (.bin (.r rfl) (.r rfl) (pb_inc (by omega))) rfl ?_
    refine WO.val (.nck (.r rfl)) rfl ?_
    refine WO.val (.faL fld_62_1 (.r rfl) rfl) rfl ?_
    refine WO.stB (k := 0) one_3 rfl rfl rfl rfl rfl (by repeat constructor) (by repeat constructor) ?_
    refine WO.nil ?_
    refine KQ.seq ?_
    refine WC.seq ?_
    refine WC.region ?_
    refine WO.val (.mv (.r rfl)) rfl ?_
    refine WO.val (.mv (.r rfl)) rfl ?_
    refine WO.val (.nck (.r rfl)) rfl ?_
    refine WO.val (.faL fld_62_2 (.r rfl) rfl) rfl ?_
    refine WO.val (.ldB (k := 0) one_53 (.r rfl) rfl rfl) rfl ?_
    refine WO.val (.bin (.r rfl) (.r rfl) rfl) rfl ?_
    refine WO.val (.mv (.r rfl)) rfl ?_
    refine WO.val (.cvi Tryd.underlying3 Tryd.underlying53 (.r rfl) rfl) rfl ?_
    refine WO.val (.bin (.r rfl) (.r rfl) rfl) rfl ?_
    refine WO.val (.bin (.r rfl) (.r rfl) rfl) rfl ?_
    refine WO.val (.nck (.r rfl)) rfl ?_
    refine WO.val (.faL fld_62_2 (.r rfl) rfl) rfl ?_
    refine WO.stB (k := 0) one_53 rfl rfl rfl rfl rfl (by repeat constructor) (by repeat constructor) ?_
    refine WO.nil ?_
    refine KQ.seq ?_
    refine WC.seq ?_
    refine WC.seq ?_
    refine WC.quiet (by kernel_rfl) (by kernel_rfl) ?_
    refine WQ.val (.mv (.r rfl)) rfl ?_
    refine WQ.val (.nck (.r rfl)) rfl ?_
    refine WQ.val (.faL fld_62_1 (.r rfl) rfl) rfl ?_
    refine WQ.val (.ldB (k := 0) one_3 (.r rfl) rfl rfl) rfl ?_
    refine WQ.val (.mv (.r rfl)) rfl ?_
    refine WQ.val (.nck (.r rfl)) rfl ?_
    refine WQ.val (.faL fld_62_0 (.r rfl) rfl) rfl ?_
    refine WQ.val (.ldB (k := 0) one_28 (.r rfl) rfl rfl) rfl ?_
    refine WQ.val (.len sli_28 (.r rfl)) rfl ?_
    refine WQ.val (.bin (.r rfl) (.r rfl) rfl) rfl ?_
    refine WQ.nil ?_
    refine KQ.seq ?_
    refine WC.cond rfl (fun c3 => ?_) (fun c3 => ?_)
    · refine WC.seq ?_
      refine WC.region ?_
      refine WO.val (.mv (.r rfl)) rfl ?_
      refine WO.val (.asg (.r rfl)) rfl ?_
      refine WO.nil ?_
      refine KQ.seq ?_
      refine WC.ret ?_
      exact KQ.thenR (KQ.fin rfl (.tmp rfl .nil) (fun w hw => ⟨_, rfl, Sat.pureI (⟨by decide, by decide⟩) (Sat.curI (k := k + 1) (by omega) hw)⟩))
    · refine WC.skip ?_
      refine KQ.seq ?_
      refine WC.seq ?_
      refine WC.region ?_
      refine WO.val (.mv (.r rfl)) rfl ?_
      refine WO.val (.nck (.r rfl)) rfl ?_
      refine WO.val (.faL fld_62_2 (.r rfl) rfl) rfl ?_
      refine WO.val (.ldB (k := 0) one_53 (.r rfl) rfl rfl) rfl ?_
      refine WO.val (.bin (.r rfl) (.r rfl) rfl) rfl ?_
      refine WO.val (.bin (.r rfl) (.r rfl) rfl) rfl ?_
      refine WO.val (.cvi Tryd.underlying53 Tryd.underlying3 (.r rfl) rfl) rfl ?_
      refine WO.val (.asg (.r rfl)) rfl ?_
      refine WO.nil ?_
      refine KQ.seq ?_
      refine WC.ret ?_
      exact KQ.fin rfl (.tmp rfl .nil) (fun w hw => ⟨_, rfl, Sat.pureI (and255 _) (Sat.curI (k := k + 1) (by omega) hw)⟩)
/-! (*spec.l1Cur).pick -/
theorem pickD (n : Int) (hn : n ≤ 1048576) : DC 38 [.int .i64 n] (fun x : Int => .int .i64 x) 2 (pickOk n) := by
  intro E Γ g A c B l hr hB w hw
  refine enter Tryd.func38 rfl rfl rfl hw ?_
  simp only [mkL]
  refine WC.seq ?_
  refine WC.region ?_
  refine WO.val (.asg (.r rfl)) rfl ?_
  refine WO.nil ?_
  refine KQ.seq ?_
  refine WC.seq ?_
  refine WC.seq ?_
  refine WC.region ?_
  refine WO.val (.mv (.r rfl)) rfl ?_
  refine WO.val (.bin (.r rfl) (.r rfl) rfl) rfl ?_
  refine WO.nil ?_
  refine KQ.seq ?_
  refine WC.cond rfl (fun c1 => ?_) (fun c1 => ?_)
  · refine WC.seq ?_
    refine WC.region ?_
    refine WO.val (.asg (.r rfl)) rfl ?_
    refine WO.nil ?_
    refine KQ.seq ?_
    refine WC.ret ?_
    exact KQ.thenR (KQ.fin rfl (.tmp rfl .nil) (fun w hw => ⟨_, rfl, drawF (⟨by omega, .inr rfl⟩) (by omega) (hw)⟩))
  · refine WC.skip ?_
    refine KQ.seq ?_
    refine WC.seq ?_
    refine WC.region ?_
    refine WO.val (.mv (.r rfl)) rfl ?_
    refine WO.draw 0 .z rfl ent_53 rfl nextD hr (by omega) fun x9 h9 => ?_
    refine WO.val (.asg (.r rfl)) rfl ?_
    refine WO.nil ?_
    refine KQ.seq ?_
    refine WC.seq ?_
    refine WC.seq ?_
    refine WC.region ?_
    refine WO.val (.mv (.r rfl)) rfl ?_
    refine WO.val (.bin (.r rfl) (.r rfl) rfl) rfl ?_
    refine WO.nil ?_
    refine KQ.seq ?_
    refine WC.cond rfl (fun c2 => ?_) (fun c2 => ?_)
    · refine WC.region ?_
      refine WO.val (.mv (.r rfl)) rfl ?_
      refine WO.val (.bin (.r rfl) (.r rfl) (pb_mul (by omega) (by omega))) rfl ?_
      refine WO.val (.mv (.r rfl)) rfl ?_
      refine WO.draw 0 .z rfl ent_53 rfl nextD hr (by omega) fun x15 h15 => ?_
      refine WO.val (.bin (.r rfl) (.r rfl) (pb_add (by omega) (by omega))) rfl ?_
      refine WO.val (.asg (.r rfl)) rfl ?_
      refine WO.nil ?_
      refine KQ.seq ?_
      refine WC.seq ?_
      refine WC.region ?_
      refine WO.val (.mv (.r rfl)) rfl ?_
      refine WO.val (.mv (.r rfl)) rfl ?_
      refine WO.val (.bin (.r rfl) (.r rfl) (pb_rem (by simp at c1; omega))) rfl ?_
      refine WO.val (.asg (.r rfl)) rfl ?_
      refine WO.nil ?_
      refine KQ.seq ?_
      refine WC.ret ?_
      exact KQ.fin rfl (.tmp rfl .nil) (fun w hw => ⟨_, rfl, drawF (pick_mod (by omega) (by simp at c1; omega)) (by omega) (hw)⟩)
    · refine WC.skip ?_
      refine KQ.seq ?_
      refine WC.seq ?_
      refine WC.region ?_
      refine WO.val (.mv (.r rfl)) rfl ?_
      refine WO.val (.mv (.r rfl)) rfl ?_
      refine WO.val (.bin (.r rfl) (.r rfl) (pb_rem (by simp at c1; omega))) rfl ?_
      refine WO.val (.asg (.r rfl)) rfl ?_
      refine WO.nil ?_
      refine KQ.seq ?_
      refine WC.ret ?_
      exact KQ.fin rfl (.tmp rfl .nil) (fun w hw => ⟨_, rfl, drawF (pick_mod (by omega) (by simp at c1; omega)) (by omega) (hw)⟩)
/-! (*spec.l1Cur).one -/
theorem oneD (n : Int) (hn : n ≤ 1048576) : DC 37 [.int .i64 n] (fun x : Bool => .bool x) 2 (fun _ => True) := by
  intro E Γ g A c B l hr hB w hw
  refine enter Tryd.func37 rfl rfl rfl hw ?_
  simp only [mkL]
  refine WC.seq ?_
  refine WC.region ?_
  refine WO.val (.asg (.r rfl)) rfl ?_
  refine WO.nil ?_
  refine KQ.seq ?_
  refine WC.seq ?_
  refine WC.region ?_
  refine WO.val (.mv (.r rfl)) rfl ?_
  refine WO.val (.mv (.r rfl)) rfl ?_
  refine WO.draw 0 .z rfl ent_38 rfl (pickD n hn) hr (by omega) fun x7 h7 => ?_
  refine WO.val (.bin (.r rfl) (.r rfl) rfl) rfl ?_
  refine WO.val (.asg (.r rfl)) rfl ?_
  refine WO.nil ?_
  refine KQ.seq ?_
  refine WC.ret ?_
  exact KQ.fin rfl (.tmp rfl .nil) (fun w hw => ⟨_, rfl, drawF (trivial) (by omega) (hw)⟩)
/-! (*spec.l1Cur).wide -/
theorem wideD : DC 72 [] (fun x : Int => .int .i64 x) 8 (fun _ => True) := by
  intro E Γ g A c B l hr hB w hw
  refine enter Tryd.func72 rfl rfl rfl hw ?_
  simp only [mkL]
  refine WC.seq ?_
  refine WC.region ?_
  refine WO.val (.asg (.r rfl)) rfl ?_
  refine WO.nil ?_
  refine KQ.seq ?_
  refine WC.seq ?_
  refine WC.region ?_
  refine WO.val (.asg (.r rfl)) rfl ?_
  refine WO.nil ?_
  refine KQ.seq ?_
  refine WC.seq ?_
  refine WC.seq ?_
  refine WC.region ?_
  refine WO.val (.asg (.r rfl)) rfl ?_
  refine WO.nil ?_
  refine KQ.seq ?_
  refine WC.block ?_
  refine WC.loop (σ := {p : Nat × Int // p.1 ≤ 8}) (fun q => [(0, .pointer (some ⟨g, 0, none⟩)), (3, .int .i64 q.1.2), (4, .int .i64 (q.1.1 : Nat))]) (fun q => (Cur g A l.length c (B + q.1.1) :: Γ)) (fun q => 8 - q.1.1) (⟨(0, 0), by decide⟩) (by exact ⟨rfl, rfl, rfl, trivial⟩) (fun w hw => hw) ?_
  rintro ⟨⟨i, n⟩, hi⟩
  dsimp only at hi
  dsimp only
  refine WC.seq ?_
  refine WC.seq ?_
  refine WC.region ?_
  refine WO.val (.mv (.r rfl)) rfl ?_
  refine WO.val (.bin (.r rfl) (.r rfl) rfl) rfl ?_
  refine WO.nil ?_
  refine KQ.seq ?_
  refine WC.cond rfl (fun c1 => ?_) (fun c1 => ?_)
  · have hi8 : i < 8 := by have := of_decide_eq_true c1; omega
    refine WC.skip ?_
    refine KQ.seq ?_
    refine WC.seq ?_
    refine WC.block ?_
    refine WC.region ?_
    refine WO.val (.mv (.r rfl)) rfl ?_
    refine WO.val (.bin (.r rfl) (.r rfl) rfl) rfl ?_
    refine WO.val (.mv (.r rfl)) rfl ?_
    refine WO.draw 0 .z rfl ent_53 rfl nextD hr (by omega) fun x12 h12 => ?_
    refine WO.val (.bin (.r rfl) (.r rfl) rfl) rfl ?_
    refine WO.val (.asg (.r rfl)) rfl ?_
    refine WO.nil ?_
    refine KQ.blockN (KQ.seq ?_)
    refine WC.region ?_
    refine WO.val (.mv (.r rfl)) rfl ?_
    refine WO.val (.bin (.r rfl) (.r rfl) (pb_inc (by omega))) rfl ?_
    refine WO.val (.asg (.r rfl)) rfl ?_
    refine WO.nil ?_
    refine KQ.again (⟨(i + 1, _), by dsimp only; omega⟩) (by dsimp only; omega) (by exact ⟨rfl, rfl, rfl, trivial⟩) (fun w hw => hw)
  · refine WC.exit ?_
    refine KQ.thenX (KQ.thenX (KQ.blockX (KQ.seq ?_)))
    refine WC.seq ?_
    refine WC.region ?_
    refine WO.val (.mv (.r rfl)) rfl ?_
    refine WO.val (.asg (.r rfl)) rfl ?_
    refine WO.nil ?_
    refine KQ.seq ?_
    refine WC.ret ?_
    exact KQ.fin rfl (.tmp rfl .nil) (fun w hw => ⟨_, rfl, drawF (trivial) (by omega) (hw)⟩)
/-! (*spec.l1Cur).sized -/
theorem sizedD : DC 54 [] (fun x : Int => .int .i64 x) 16 (fun _ => True) := by
  intro E Γ g A c B l hr hB w hw
  refine enter Tryd.func54 rfl rfl rfl hw ?_
  simp only [mkL]
  refine WC.seq ?_
  refine WC.region ?_
  refine WO.val (.asg (.r rfl)) rfl ?_
  refine WO.nil ?_
  refine KQ.seq ?_
  refine WC.seq ?_
  refine WC.region ?_
  refine WO.val (.mv (.r rfl)) rfl ?_
  refine WO.draw 0 .z rfl ent_38 rfl (pickD 5 (by decide)) hr (by omega) fun x5 h5 => ?_
  refine WO.val (.asg (.r rfl)) rfl ?_
  refine WO.nil ?_
  refine KQ.seq ?_
  refine WC.seq ?_
  refine WC.seq ?_
  refine WC.region ?_
  refine WO.val (.mv (.r rfl)) rfl ?_
  refine WO.draw 0 .z rfl ent_38 rfl (pickD 8 (by decide)) hr (by omega) fun x7 h7 => ?_
  refine WO.nil ?_
  refine KQ.seq ?_
  refine WC.join (σ := Int) (fun q => [(0, .pointer (some ⟨g, 0, none⟩)), (3, .int .i64 q)]) (fun q => (Cur g A l.length c (B + 14) :: Γ)) ?_ ?_
  · refine WC.block ?_
    refine WC.seq ?_
    refine WC.region ?_
    refine WO.val (.bin (.r rfl) (.r rfl) rfl) rfl ?_
    refine WO.val (.asg (.r rfl)) rfl ?_
    refine WO.nil ?_
    refine KQ.seq ?_
    refine WC.cond rfl (fun c1 => ?_) (fun c1 => ?_)
    · refine WC.region ?_
      refine WO.val (.mv (.r rfl)) rfl ?_
      refine WO.draw 0 .z rfl ent_38 rfl (pickD 300 (by decide)) hr (by omega) fun x11 h11 => ?_
      refine WO.val (.asg (.r rfl)) rfl ?_
      refine WO.nil ?_
      refine KQ.blockN (KQ.mid (_) (by exact ⟨rfl, rfl, trivial⟩) (fun w hw => Sat.curM (by omega) hw))
    · refine WC.seq ?_
      refine WC.region ?_
      refine WO.val (.bin (.r rfl) (.r rfl) rfl) rfl ?_
      refine WO.val (.asg (.r rfl)) rfl ?_
      refine WO.nil ?_
      refine KQ.seq ?_
      refine WC.cond rfl (fun c2 => ?_) (fun c2 => ?_)
      · refine WC.region ?_
        refine WO.val (.mv (.r rfl)) rfl ?_
        refine WO.draw 0 .z rfl ent_72 rfl wideD hr (by omega) fun x15 h15 => ?_
        refine WO.val (.mv (.r rfl)) rfl ?_
        refine WO.draw 0 .z rfl ent_38 rfl (pickD 64 (by decide)) hr (by omega) fun x17 h17 => ?_
        refine WO.val (.cvi Tryd.underlying3 Tryd.underlying71 (.r rfl) (by unfold pickOk at h17; exact cvU (by omega) (by omega))) rfl ?_
        refine WO.val (.bin (.r rfl) (.r rfl) (by unfold pickOk at h17; exact pb_shrU (by omega) (by omega))) rfl ?_
        refine WO.val (.asg (.r rfl)) rfl ?_
        refine WO.nil ?_
        refine KQ.blockN (KQ.mid (_) (by exact ⟨rfl, rfl, trivial⟩) (fun w hw => Sat.curM (by omega) hw))
      · refine WC.seq ?_
        refine WC.region ?_
        refine WO.val (.bin (.r rfl) (.r rfl) rfl) rfl ?_
        refine WO.val (.asg (.r rfl)) rfl ?_
        refine WO.nil ?_
        refine KQ.seq ?_
        refine WC.cond rfl (fun c3 => ?_) (fun c3 => ?_)
        · refine WC.region ?_
          refine WO.val (.mv (.r rfl)) rfl ?_
          refine WO.draw 0 .z rfl ent_38 rfl (pickD 64 (by decide)) hr (by omega) fun x23 h23 => ?_
          refine WO.val (.cvi Tryd.underlying3 Tryd.underlying71 (.r rfl) (by unfold pickOk at h23; exact cvU (by omega) (by omega))) rfl ?_
          refine WO.val (.bin (.r rfl) (.r rfl) (by unfold pickOk at h23; exact pb_shlU (by omega) (by omega))) rfl ?_
          refine WO.val (.asg (.r rfl)) rfl ?_
          refine WO.nil ?_
          refine KQ.blockN (KQ.mid (_) (by exact ⟨rfl, rfl, trivial⟩) (fun w hw => Sat.curM (by omega) hw))
        · refine WC.seq ?_
          refine WC.region ?_
          refine WO.val (.bin (.r rfl) (.r rfl) rfl) rfl ?_
          refine WO.val (.asg (.r rfl)) rfl ?_
          refine WO.nil ?_
          refine KQ.seq ?_
          refine WC.cond rfl (fun c4 => ?_) (fun c4 => ?_)
          · refine WC.region ?_
            refine WO.val (.mv (.r rfl)) rfl ?_
            refine WO.draw 0 .z rfl ent_38 rfl (pickD 64 (by decide)) hr (by omega) fun x29 h29 => ?_
            refine WO.val (.cvi Tryd.underlying3 Tryd.underlying71 (.r rfl) (by unfold pickOk at h29; exact cvU (by omega) (by omega))) rfl ?_
            refine WO.val (.bin (.r rfl) (.r rfl) (by unfold pickOk at h29; exact pb_shlU (by omega) (by omega))) rfl ?_
            refine WO.val (.bin (.r rfl) (.r rfl) rfl) rfl ?_
            refine WO.val (.asg (.r rfl)) rfl ?_
            refine WO.nil ?_
            refine KQ.blockN (KQ.mid (_) (by exact ⟨rfl, rfl, trivial⟩) (fun w hw => Sat.curM (by omega) hw))
          · refine WC.skip ?_
            refine KQ.blockN (KQ.mid (_) (by exact ⟨rfl, rfl, trivial⟩) (fun w hw => Sat.curM (by omega) hw))
  · intro q
    refine WC.seq ?_
    refine WC.seq ?_
    refine WC.region ?_
    refine WO.val (.mv (.r rfl)) rfl ?_
    refine WO.draw 0 .z rfl ent_37 rfl (oneD 3 (by decide)) hr (by omega) fun x34 h34 => ?_
    refine WO.nil ?_
    refine KQ.seq ?_
    refine WC.cond rfl (fun c5 => ?_) (fun c5 => ?_)
    · refine WC.region ?_
      refine WO.val (.mv (.r rfl)) rfl ?_
      refine WO.val (.ng (.r rfl)) rfl ?_
      refine WO.val (.asg (.r rfl)) rfl ?_
      refine WO.nil ?_
      refine KQ.seq ?_
      refine WC.seq ?_
      refine WC.region ?_
      refine WO.val (.mv (.r rfl)) rfl ?_
      refine WO.val (.asg (.r rfl)) rfl ?_
      refine WO.nil ?_
      refine KQ.seq ?_
      refine WC.ret ?_
      exact KQ.fin rfl (.tmp rfl .nil) (fun w hw => ⟨_, rfl, drawF (trivial) (by omega) (hw)⟩)
    · refine WC.skip ?_
      refine KQ.seq ?_
      refine WC.seq ?_
      refine WC.region ?_
      refine WO.val (.mv (.r rfl)) rfl ?_
      refine WO.val (.asg (.r rfl)) rfl ?_
      refine WO.nil ?_
      refine KQ.seq ?_
      refine WC.ret ?_
      exact KQ.fin rfl (.tmp rfl .nil) (fun w hw => ⟨_, rfl, drawF (trivial) (by omega) (hw)⟩)
/-! (*spec.l1Cur).size -/
theorem sizeD : DC 41 [] (fun x : Int => .int .i64 x) 4 (fun x => 0 ≤ x ∧ x ≤ 120) := by
  intro E Γ g A c B l hr hB w hw
  refine enter Tryd.func41 rfl rfl rfl hw ?_
  simp only [mkL]
  refine WC.seq ?_
  refine WC.region ?_
  refine WO.val (.asg (.r rfl)) rfl ?_
  refine WO.nil ?_
  refine KQ.seq ?_
  refine WC.seq ?_
  refine WC.seq ?_
  refine WC.region ?_
  refine WO.val (.mv (.r rfl)) rfl ?_
  refine WO.draw 0 .z rfl ent_37 rfl (oneD 10 (by decide)) hr (by omega) fun x4 h4 => ?_
  refine WO.nil ?_
  refine KQ.seq ?_
  refine WC.cond rfl (fun c1 => ?_) (fun c1 => ?_)
  · refine WC.seq ?_
    refine WC.region ?_
    refine WO.val (.mv (.r rfl)) rfl ?_
    refine WO.draw 0 .z rfl ent_38 rfl (pickD 3 (by decide)) hr (by omega) fun x6 h6 => ?_
    refine WO.val (.bin (.r rfl) (.r rfl) (by unfold pickOk at h6; exact pb_sub (by omega) (by omega))) rfl ?_
    refine WO.val (.asg (.r rfl)) rfl ?_
    refine WO.nil ?_
    refine KQ.seq ?_
    refine WC.ret ?_
    exact KQ.thenR (KQ.fin rfl (.tmp rfl .nil) (fun w hw => ⟨_, rfl, drawF (by unfold pickOk at h6; omega) (by omega) (hw)⟩))
  · refine WC.skip ?_
    refine KQ.seq ?_
    refine WC.seq ?_
    refine WC.region ?_
    refine WO.val (.mv (.r rfl)) rfl ?_
    refine WO.draw 0 .z rfl ent_38 rfl (pickD 14 (by decide)) hr (by omega) fun x9 h9 => ?_
    refine WO.val (.asg (.r rfl)) rfl ?_
    refine WO.nil ?_
    refine KQ.seq ?_
    refine WC.ret ?_
    exact KQ.fin rfl (.tmp rfl .nil) (fun w hw => ⟨_, rfl, drawF (by unfold pickOk at h9; omega) (by omega) (hw)⟩)
end Go.Proofs.YtfnaplhjkapghaaDoor
