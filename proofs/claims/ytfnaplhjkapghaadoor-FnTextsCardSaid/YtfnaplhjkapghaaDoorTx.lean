/- Texts: indexing, slicing, bytes as a text; calls behind a guard; literals of structs. -/
import Derived.Test.YtfnaplhjkapghaaDoorOw
import Derived.Laws.IdiomStrings
import Derived.Laws.DeepStrings4
set_option linter.unusedVariables false
set_option linter.unusedSimpArgs false
namespace Go.Proofs.YtfnaplhjkapghaaDoor.Sp
open Go Go.RowKit
variable {P : Program} {N : Nat} {E : Env} {l0 : List Oper} {rest : List Oper} {L : Slots} {Γ : List Asn} {Q : Exit → Act → World → Prop}
variable {d : Nat} {ty : TypeId} {pos : String} {af : Array Edge} {v : Value}
theorem Val.ixT {T : TypeId} {x y : Operand} {s : List UInt8} {ki : IntKind} {k : Nat} {u : UInt8} (hT : P.underlying T = some .string) (hx : Is L x (str s)) (hy : Is L y (.int ki (k : Int))) (hu : s[k]? = some u) : Val P N E L Γ (.index T x y) (.int .u8 u.toNat) :=
  Val.ixS hT hx hy (by omega) (by
    have hk : k < s.length := (List.getElem?_eq_some_iff.1 hu).1
    show (ByteArray.mk s.toArray)[((k : Int).toNat)]? = some u
    rw [Int.toNat_natCast, getElem?_pos (ByteArray.mk s.toArray) k (show k < s.length from hk)]
    rw [List.getElem?_eq_getElem hk] at hu
    exact hu)
theorem str_extract (s : List UInt8) (a b : Nat) : (ByteArray.mk s.toArray).extract a b = ⟨((s.take b).drop a).toArray⟩ := by
  apply ByteArray.ext; rw [ByteArray.data_extract]; simp [List.drop_take]
theorem Val.slLH {T : TypeId} {x y z : Operand} {s : List UInt8} {ka kb : IntKind} {a b : Nat} (hT : P.underlying T = some .string) (hx : Is L x (str s)) (hy : Is L y (.int ka (a : Int))) (hz : Is L z (.int kb (b : Int))) (h1 : a ≤ b) (h2 : b ≤ s.length) :
    Val P N E L Γ (.slice T x (some y) (some z) none) (str ((s.take b).drop a)) :=
  fun _ _ _ _ ac w hf _ => by
    have h := run_slice_string_if (P := P) (w := w) T ⟨s.toArray⟩ ka kb a b hT
    rw [if_pos (⟨by omega, by show (b : Int) ≤ (s.length : Int); omega⟩), if_pos (by omega)] at h
    simp only [execOp, Option.map, hf.is hx, hf.is hy, hf.is hz, Instr.sliceAt, Sem.run_bind, run_underlying hT, Result.andThen_ok]
    simp only [str, h, Result.andThen_ok, str_extract, Sem.run_pure, Int.toNat_natCast]
theorem Val.slL {T : TypeId} {x y : Operand} {s : List UInt8} {ka : IntKind} {a : Nat} (hT : P.underlying T = some .string) (hx : Is L x (str s)) (hy : Is L y (.int ka (a : Int))) (h1 : a ≤ s.length) :
    Val P N E L Γ (.slice T x (some y) none none) (str (s.drop a)) :=
  fun _ _ _ _ ac w hf _ => by
    have h := run_slice_string_l (P := P) w T ⟨s.toArray⟩ hT ka a (by omega) (by show (a : Int) ≤ (s.length : Int); omega)
    simp only [execOp, Option.map, hf.is hx, hf.is hy, Instr.sliceAt, Sem.run_bind, run_underlying hT, Result.andThen_ok]
    simp only [str, h, Result.andThen_ok, str_extract, Sem.run_pure, Int.toNat_natCast]
    have e : s.take (ByteArray.size ⟨s.toArray⟩) = s := List.take_length
    rw [e]
def vB (b : UInt8) : Value := .int .u8 b.toNat
/-- a row of bytes as a text -/
theorem Val.cvT {src dst e : TypeId} {x : Operand} {l : List UInt8} {T : Nat} {Γ' : List Asn} (hs : P.underlying src = some (.slice e)) (he : P.underlying e = some (.int .u8)) (hd : P.underlying dst = some .string)
    (hx : Is L x v) (hg : ∀ w, Sat E w Γ → Sat E w (Row T 1 v l.length (l.map vB) :: Γ')) : Val P N E L Γ (.convert src dst x) (str l) :=
  fun _ _ _ _ ac w hf hw => by
    simp only [execOp, hf.is hx]
    rcases (hg w hw).row1 with ⟨⟨rfl, h0, _⟩, _⟩ | ⟨g, cap, cur, hr, hb⟩
    · obtain rfl := List.eq_nil_of_length_eq_zero h0
      simp only [Sem.run_bind, run_convert_bytes_string w src dst e _ _ _ hs he hd]
      rfl
    · obtain ⟨_, ad, c, hv, _, _, hh⟩ := (hg w hw).rowHas
      cases ad with
      | none => rw [hr.hv] at hv; cases hv
      | some ad =>
        subst hv
        have h := run_convert_bytes_back w src dst e ad c l hs he hd (fun j hj => (hh ad rfl).2.2 j _ (by simp [hj, vB]))
        simp only [Sem.run_bind, h, Result.andThen_ok]
        rfl
/-! calls behind a guard -/
def Iss (L : Slots) (xs : List Operand) (vs : List Value) : Prop := ∃ us, evs L xs = some us ∧ us = vs
theorem Iss.nil : Iss L [] [] := ⟨_, rfl, rfl⟩
theorem Iss.cons {x : Operand} {u : Value} {xs : List Operand} {vs : List Value} (h : Is L x u) (k : Iss L xs vs) : Iss L (x :: xs) (u :: vs) := by
  obtain ⟨u', h1, rfl⟩ := h; obtain ⟨us, h2, rfl⟩ := k
  exact ⟨u' :: us, by simp [evs, h1, h2], rfl⟩
theorem WO.gdC {f : FuncId} {xs : List Operand} {ats : Array TypeId} {vs : List Value} {j t : Nat} {b want : Bool} (hj : ((l0[j]?).bind (·.dst)) = some t) (hv : lk t L = some (.bool b)) (hd : Nat.ble (d + 1) N = true) (he : Ent P f)
    (h : (b == want) = true → Iss L xs vs ∧ ∀ w, Sat E w Γ → CV P f vs w v)
    (k : WO P N E l0.toArray rest ((d, gv (b == want) v) :: L) Γ Q) : WO P N E l0.toArray (⟨some d, .call { callee := .value (.func f), args := xs.toArray, argTypes := ats }, ty, pos, af, some (j, want)⟩ :: rest) L Γ Q := by
  by_cases hb : b = want
  · subst hb
    have e : gv (b == b) v = v := by cases b <;> rfl
    obtain ⟨⟨us, h1, rfl⟩, h2⟩ := h (by simp)
    refine WO.gT hj hv (WO.callS hd he h1 h2 ?_)
    rw [e] at k; exact k
  · have e : (b == want) = false := by cases b <;> cases want <;> simp at hb ⊢
    refine WO.gF hd hj hv e ?_
    rw [e] at k; exact k
theorem WO.gdCN {f : FuncId} {xs : List Operand} {ats : Array TypeId} {vs : List Value} {j t : Nat} {c b want : Bool} (hj : ((l0[j]?).bind (·.dst)) = some t) (hv : lk t L = some (gv c (.bool b))) (hd : Nat.ble (d + 1) N = true) (he : Ent P f)
    (h : (c && (b == want)) = true → Iss L xs vs ∧ ∀ w, Sat E w Γ → CV P f vs w v)
    (k : WO P N E l0.toArray rest ((d, gv (c && (b == want)) v) :: L) Γ Q) : WO P N E l0.toArray (⟨some d, .call { callee := .value (.func f), args := xs.toArray, argTypes := ats }, ty, pos, af, some (j, want)⟩ :: rest) L Γ Q := by
  cases c with
  | true => exact WO.gdC hj hv hd he h k
  | false =>
    intro a w hf hs
    have hy : yielded l0.toArray a.tmps j = none := by
      unfold yielded
      have : (l0.toArray[j]?).bind (·.dst) = some t := by simpa using hj
      rw [this, Option.bind_some, hf.at_ t _ hv]; rfl
    unfold wpList
    rw [if_neg (by simp [Region.wanted, hy])]
    exact k _ _ (hf.put (Nat.le_of_ble_eq_true hd) _) hs
/-! a struct's literal -/
def Bld (P : Program) (T : TypeId) (z : List Value) (pl : List (Nat × Nat)) : Prop := ∃ fs i z', P.underlying T = some (.struct fs) ∧ P.info? T = some i ∧ i.zero = some z' ∧ z'.cells = z.toArray ∧ fs.toList.map (fun f => (f.offset, (P.info? f.type).map (·.size))) = pl.map (fun p => (p.1, some p.2))
theorem Bld.of {T : TypeId} {z : List Value} {pl : List (Nat × Nat)} {z' : Value} (hz : z'.cells = z.toArray) (hi : (P.info? T).map (·.zero) = some (some z'))
    (h : (match P.underlying T with | some (.struct fs) => fs.toList.map (fun f => (f.offset, (P.info? f.type).map (·.size))) == pl.map (fun p => (p.1, some p.2)) | _ => false) = true) : Bld P T z pl := by
  cases hu : P.underlying T with
  | none => simp [hu] at h
  | some ds =>
    rw [hu] at h
    cases hI : P.info? T with
    | none => rw [hI] at hi; cases hi
    | some i =>
      rw [hI] at hi
      cases ds with
      | struct fs => exact ⟨fs, i, z', hu, hI, by simpa using hi, hz, by simpa using h⟩
      | _ => cases h
theorem places_run {w : World} : ∀ (fs : List Field) (pl : List (Nat × Nat)), fs.map (fun f => (f.offset, (P.info? f.type).map (·.size))) = pl.map (fun p => (p.1, some p.2)) →
    (fs.mapM (fun f => do pure (f.offset, ← sizeOf f.type) : Field → Sem (Nat × Nat))).run P w = .ok pl w
  | [], [], _ => rfl
  | [], _ :: _, h => by cases h
  | _ :: _, [], h => by cases h
  | f :: fs, (a, b) :: pl, h => by
    simp only [List.map_cons, List.cons.injEq, Prod.mk.injEq] at h
    obtain ⟨⟨h1, h2⟩, h3⟩ := h
    cases hI : P.info? f.type with
    | none => rw [hI] at h2; cases h2
    | some i =>
      rw [hI] at h2
      have h2 : i.size = b := by simpa using h2
      subst h1; subst h2
      rw [List.mapM_cons]
      have hs : (sizeOf f.type).run P w = .ok i.size w := by simp [sizeOf, typeInfo, program, Sem.run, hI, Bind.bind, Sem.bind, Pure.pure]
      simp only [Sem.run_bind, hs, Sem.run_pure, Result.andThen_ok, places_run fs pl h3]
theorem Val.bld {T : TypeId} {z c : List Value} {pl : List (Nat × Nat)} {ps : List (Nat × Operand)} {vs : List (Nat × Value)} (hT : Bld P T z pl) (hx : ps.map (fun p => (p.1, ev L p.2)) = vs.map (fun p => (p.1, some p.2)))
    (hf : Instr.fill (pl.toArray[·]?) z.toArray vs = some c.toArray) : Val P N E L Γ (.build T ps.toArray) (.agg c.toArray) :=
  fun _ _ _ _ ac w hfr hw => by
    obtain ⟨fs, i, z', hu, hi, hz, hc, hp⟩ := hT
    have hv : ps.map (fun p => (p.1, ac.eval p.2)) = vs := by
      clear hf
      induction ps generalizing vs with
      | nil => cases vs with | nil => rfl | cons _ _ => cases hx
      | cons p ps ih =>
        cases vs with
        | nil => cases hx
        | cons q vs =>
          simp only [List.map_cons, List.cons.injEq, Prod.mk.injEq] at hx
          rw [List.map_cons, ih hx.2, hfr.ev hx.1.2, hx.1.1]
    have hm : (fs.mapM (fun f => do pure (f.offset, ← sizeOf f.type) : Field → Sem (Nat × Nat))).run P w = .ok pl.toArray w := by
      have h0 := places_run (P := P) (w := w) fs.toList pl hp
      have e : fs = fs.toList.toArray := by simp
      rw [e, List.mapM_toArray]
      simp only [Sem.run_map, h0]
      rfl
    have hzv : (zeroValue T).run P w = .ok z' w := by
      simp [zeroValue, typeInfo, program, Sem.run, hi, hz, Bind.bind, Sem.bind, Pure.pure]
    simp only [execOp, Instr.build, Sem.run_bind, hzv, Result.andThen_ok, run_underlying hu, hm, List.map_toArray, hv, hc]
    simp only [hf, Sem.run_pure, Result.andThen_ok]
end Go.Proofs.YtfnaplhjkapghaaDoor.Sp
