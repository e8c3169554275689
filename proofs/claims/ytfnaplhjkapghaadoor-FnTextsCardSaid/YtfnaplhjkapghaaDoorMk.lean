/- Making slices and writing into them. -/
import Derived.Test.YtfnaplhjkapghaaDoorRep
set_option linter.unusedVariables false
set_option linter.unusedSimpArgs false
namespace Go.Proofs.YtfnaplhjkapghaaDoor.Sp
open Go Go.RowKit
variable {P : Program} {N : Nat} {E : Env} {l0 : List Oper} {rest : List Oper} {L : Slots} {Γ : List Asn} {Q : Exit → Act → World → Prop}
variable {d : Nat} {ty : TypeId} {pos : String} {af : Array Edge} {v : Value}
/-! entailment, with what is let go -/
def Ent1 (A B : Asn) : Prop := ∀ H F, A.h H F → ∃ F', (∀ b, F' b → F b) ∧ B.h H F'
theorem Sat.ent {w : World} {A B : Asn} (he : Ent1 A B) (h : Sat E w (A :: Γ)) : Sat E w (B :: Γ) := by
  obtain ⟨F, ⟨F1, F2, hs, a, r⟩, hF⟩ := h.own
  obtain ⟨G, hG, b⟩ := he _ _ a
  refine ⟨h.os, h.tape, h.output, h.old, fun k => G k ∨ F2 k, ⟨G, F2, ⟨fun k hk => hs.1 k ⟨hG k hk.1, hk.2⟩, fun _ => Iff.rfl⟩, b, r⟩, ?_⟩
  rintro k (hk | hk)
  · exact hF k ((hs.2 k).2 (.inl (hG k hk)))
  · exact hF k ((hs.2 k).2 (.inr hk))
theorem Ent1.refl (A : Asn) : Ent1 A A := fun _ F h => ⟨F, fun _ h => h, h⟩
theorem Ent1.star {A A' B B' : Asn} (ha : Ent1 A A') (hb : Ent1 B B') : Ent1 (.star A B) (.star A' B') := by
  rintro H F ⟨F1, F2, hs, a, b⟩
  obtain ⟨G1, h1, a'⟩ := ha _ _ a
  obtain ⟨G2, h2, b'⟩ := hb _ _ b
  exact ⟨fun k => G1 k ∨ G2 k, fun k hk => (hs.2 k).2 (hk.imp (h1 k) (h2 k)), G1, G2, ⟨fun k hk => hs.1 k ⟨h1 k hk.1, h2 k hk.2⟩, fun _ => Iff.rfl⟩, a', b'⟩
theorem Ent1.trans {A B C : Asn} (h : Ent1 A B) (k : Ent1 B C) : Ent1 A C := fun H F a =>
  let ⟨G, hG, b⟩ := h H F a; let ⟨G', hG', c⟩ := k H G b; ⟨G', fun i hi => hG i (hG' i hi), c⟩
theorem Ent1.of {A B : Asn} (h : ∀ H F, A.h H F → B.h H F) : Ent1 A B := fun H F a => ⟨F, fun _ h => h, h H F a⟩
theorem Ent1.right {A B : Asn} : Ent1 (.star A B) B := fun H F ⟨F1, F2, hs, _, b⟩ => ⟨F2, fun k hk => (hs.2 k).2 (.inr hk), b⟩
theorem Ent1.left {A B : Asn} : Ent1 (.star A B) A := fun H F ⟨F1, F2, hs, a, _⟩ => ⟨F1, fun k hk => (hs.2 k).2 (.inl hk), a⟩
/-! make -/
theorem madeCells_list (z : Value) (n m : Nat) (hz : z.cells.size = n) (hn : 0 < n) : (madeCells z.cells (m * n)).toList = (List.replicate m z.cells.toList).flatten := by
  induction m with
  | zero => simp [madeCells]
  | succ m ih =>
    rw [List.replicate_succ', List.flatten_append, ← ih]
    apply List.ext_getElem?
    intro i
    simp only [madeCells, Array.toList_map, Array.toList_range, List.flatten_cons, List.flatten_nil, List.append_nil]
    by_cases h : i < m * n
    · rw [List.getElem?_append_left (by simpa using h)]
      have h2 : i < (m + 1) * n := by rw [Nat.add_mul]; omega
      simp [h, h2]
    · rw [List.getElem?_append_right (by simpa using Nat.le_of_not_lt h)]
      by_cases h2 : i < (m + 1) * n
      · have h3 : i - m * n < n := by rw [Nat.add_mul] at h2; omega
        have h4 : i % n = i - m * n := by
          have e : i = (i - m * n) + m * n := by omega
          rw [e, Nat.add_mul_mod_self_right, Nat.mod_eq_of_lt h3]; omega
        simp [h2, hz, h4, h3]
      · rw [List.getElem?_eq_none (by simpa using Nat.le_of_not_lt h2), List.getElem?_eq_none (by simp [hz]; rw [Nat.add_mul] at h2; omega)]
theorem WO.mk {t T n b m : Nat} {z : Value} {x y : Operand} {kl kc : IntKind} (hT : Sli P t T n b z) (hd : Nat.ble (d + 1) N = true) (hx : ev L x = some (.int kl (m : Int))) (hy : ev L y = some (.int kc (m : Int))) (hb : b * m ≤ 281474976710656) (hm : m ≤ 9223372036854775807)
    (k : ∀ g, WO P N E l0.toArray rest ((d, .slice (some ⟨g, 0, none⟩) m m) :: L) (Row T n (.slice (some ⟨g, 0, none⟩) m m) m (List.replicate m z.cells.toList).flatten :: Γ) Q) :
    WO P N E l0.toArray (⟨some d, .makeSlice t x y, ty, pos, af, none⟩ :: rest) L Γ Q :=
  WO.stepE (val := fun g => .slice (some ⟨g, 0, none⟩) m m) (Γ' := fun g => Row T n (.slice (some ⟨g, 0, none⟩) m m) m (List.replicate m z.cells.toList).flatten :: Γ) hd (fun a w hf hs => by
    obtain ⟨i, ht, hi, hn, hby, hz, hzs, hsz⟩ := hT
    subst hn hby
    have hb0 : ((i.bytes * m : Nat) : Int) ≤ 281474976710656 := by omega
    have hb' : (i.bytes : Int) * (m : Int) ≤ 281474976710656 := by rwa [Int.natCast_mul] at hb0
    have hr := run_make (P := P) w t T i z ht hi hz kl kc m m (by omega) (Int.le_refl _) hb' (by omega)
    refine ⟨w.heap.size, w.alloc (.cells (madeCells z.cells (m * i.size)) T), ?_, ?_⟩
    · simp only [execOp, hf.ev hx, hf.ev hy, Sem.run_bind, hr, Int.toNat_natCast]; rfl
    · have hl := madeCells_list z i.size m hzs hsz
      have hs' := hs.alloc (.cells (madeCells z.cells (m * i.size)) T)
      have e : madeCells z.cells (m * i.size) = ((List.replicate m z.cells.toList).flatten).toArray := by rw [← hl]
      rw [e] at hs' ⊢
      refine Sat.rowI ⟨rfl, Nat.le_refl _, by simpa [maxLen] using hm, ?_, ?_⟩ hs'
      · simp [hzs]
      · rw [List.take_of_length_le]; simp [hzs]) k
/-! a store into an element -/
theorem WO.stE {T T' n m g cap i : Nat} {ch cs : List Value} {x y : Operand} {u : Value} (hT : ∃ inf, P.info? T = some inf ∧ inf.size = n) (hx : ev L x = some (.pointer (some ⟨g, i * n, none⟩))) (hy : ev L y = some u) (hu : u.cells = cs.toArray) (hn : cs.length = n) (h1 : ∀ c ∈ cs, c.oneCell' = true) (hi : i < m)
    (h : WO P N E l0.toArray rest L (Row T' n (.slice (some ⟨g, 0, none⟩) m cap) m (ch.take (i * n) ++ cs ++ ch.drop (i * n + n)) :: Γ) Q) :
    WO P N E l0.toArray (⟨none, .store T x y, ty, pos, af, none⟩ :: rest) L (Row T' n (.slice (some ⟨g, 0, none⟩) m cap) m ch :: Γ) Q :=
  WO.stepU (fun a w hf hs => by
    obtain ⟨inf, hi1, hi2⟩ := hT
    rcases hs.row1 with ⟨⟨h0, _, _⟩, _⟩ | ⟨g', cap', cur, hr, hs'⟩
    · cases h0
    · have hv := hr.hv
      simp only [Value.slice.injEq, Option.some.injEq, Addr.mk.injEq] at hv
      obtain ⟨⟨rfl, _, _⟩, _, rfl⟩ := hv
      have hmn : (i + 1) * n ≤ m * n := Nat.mul_le_mul_right _ hi
      have hcn : m * n ≤ cap * n := Nat.mul_le_mul_right _ hr.le
      rw [Nat.add_mul, Nat.one_mul] at hmn
      have hst := run_storeCells_at P g (i * n) T' cs 0 cur.toArray w hs'.blk (by simp [hr.sz, hn]; omega) h1
      simp only [Nat.add_zero, List.toList_toArray] at hst
      refine ⟨w.setRow g (cur.take (i * n) ++ cs ++ cur.drop (i * n + cs.length)).toArray, ?_, ?_⟩
      · simp only [execOp, hf.ev hx, hf.ev hy, Instr.storeAt, Instr.sureAddr, Sem.run_bind, Result.andThen_ok, Sem.run_pure, storeVar, sizeOf, typeInfo, program, Sem.run, hi1, hi2, hu]
        simp [hn] at hst ⊢
        rw [hst]; rfl
      · refine Sat.rowI ⟨rfl, hr.le, hr.hc, ?_, ?_⟩ hs'.setRow
        · rw [List.length_append, List.length_append, List.length_take, List.length_drop, hr.sz, hn, Nat.min_eq_left (by omega)]; omega
        · have hk := hr.tk
          rw [← hk, hn]
          have e1 : (cur.take (m * n)).take (i * n) = cur.take (i * n) := by rw [List.take_take]; congr 1; omega
          have e2 : (cur.take (m * n)).drop (i * n + n) = (cur.drop (i * n + n)).take (m * n - (i * n + n)) := by rw [List.drop_take]
          rw [e1, e2]
          have hl : (cur.take (i * n) ++ cs).length = i * n + n := by rw [List.length_append, List.length_take, hr.sz, hn, Nat.min_eq_left (by omega)]
          have e3 : m * n = (cur.take (i * n) ++ cs).length + (m * n - (i * n + n)) := by rw [hl]; omega
          conv => lhs; rw [e3]
          rw [List.take_length_add_append]) h
theorem flatMap_set {α : Type} {n : Nat} {enc : α → List Value} (hl : ∀ x, (enc x).length = n) : ∀ (xs : List α) (i : Nat) (x : α), i < xs.length → (xs.flatMap enc).take (i * n) ++ enc x ++ (xs.flatMap enc).drop (i * n + n) = (xs.set i x).flatMap enc
  | [], i, x, h => by simp at h
  | y :: ys, 0, x, h => by simp [List.flatMap_cons, hl]
  | y :: ys, i + 1, x, h => by
    have ih := flatMap_set hl ys i x (by simpa using h)
    have e : (i + 1) * n = (enc y).length + i * n := by rw [hl, Nat.add_mul]; omega
    rw [List.flatMap_cons, List.set_cons_succ, List.flatMap_cons, ← ih, e, List.take_length_add_append, Nat.add_assoc, List.drop_length_add_append]
    simp
/-- an owned element laid into an owned slice -/
theorem rowsA_set {α : Type} (R : Rep α) (x : α) (c : List Value) (hc : c.length = R.n) : ∀ (xs : List α) (i : Nat) (ch : List Value), i < xs.length → Ent1 (.star (rowsA R xs ch) (R.own x c)) (rowsA R (xs.set i x) (ch.take (i * R.n) ++ c ++ ch.drop (i * R.n + R.n)))
  | [], i, ch, h => by simp at h
  | y :: ys, 0, ch, h => by
    rintro H F ⟨F1, F2, hs, ⟨⟨c1, e⟩, h1⟩, b⟩
    obtain ⟨⟨rfl, hn⟩, F3, F4, hs', a1, a2⟩ := star_pu.1 h1
    simp only at hn a1 a2
    refine ⟨fun k => F2 k ∨ F4 k, fun k hk => ?_, ⟨c, e⟩, star_pu.2 ⟨⟨by simp [← hn], hc⟩, F2, F4, ⟨fun k hk => hs.1 k ⟨(hs'.2 k).2 (.inr hk.2), hk.1⟩, fun _ => Iff.rfl⟩, b, a2⟩⟩
    rcases hk with hk | hk
    · exact (hs.2 k).2 (.inr hk)
    · exact (hs.2 k).2 (.inl ((hs'.2 k).2 (.inr hk)))
  | y :: ys, i + 1, ch, h => by
    rintro H F ⟨F1, F2, hs, ⟨⟨c1, e⟩, h1⟩, b⟩
    obtain ⟨⟨rfl, hn⟩, F3, F4, hs', a1, a2⟩ := star_pu.1 h1
    simp only at hn a1 a2
    obtain ⟨G, hG, r⟩ := rowsA_set R x c hc ys i e (by simpa using h) H (fun k => F4 k ∨ F2 k) ⟨F4, F2, ⟨fun k hk => hs.1 k ⟨(hs'.2 k).2 (.inr hk.1), hk.2⟩, fun _ => Iff.rfl⟩, a2, b⟩
    refine ⟨fun k => F3 k ∨ G k, fun k hk => ?_, ⟨c1, _⟩, star_pu.2 ⟨⟨?_, hn⟩, F3, G, ⟨fun k hk => ?_, fun _ => Iff.rfl⟩, a1, r⟩⟩
    · rcases hk with hk | hk
      · exact (hs.2 k).2 (.inl ((hs'.2 k).2 (.inl hk)))
      · rcases hG k hk with h4 | h2
        · exact (hs.2 k).2 (.inl ((hs'.2 k).2 (.inr h4)))
        · exact (hs.2 k).2 (.inr h2)
    · have e1 : (i + 1) * R.n = c1.length + i * R.n := by rw [hn, Nat.add_mul]; omega
      simp only
      rw [e1, List.take_length_add_append, Nat.add_assoc, List.drop_length_add_append]
      simp
    · rcases hG k hk.2 with h4 | h2
      · exact hs'.1 k ⟨hk.1, h4⟩
      · exact hs.1 k ⟨(hs'.2 k).2 (.inl hk.1), h2⟩
/-- all elements a zero that owns nothing -/
theorem rowsA_zero {α : Type} (R : Rep α) (x : α) (c : List Value) (hc : c.length = R.n) (h0 : ∀ H, (R.own x c).h H (fun _ => False)) : ∀ (m : Nat) (H : HP), (rowsA R (List.replicate m x) (List.replicate m c).flatten).h H (fun _ => False)
  | 0, H => ⟨rfl, fun _ h => h⟩
  | m + 1, H => ⟨⟨c, (List.replicate m c).flatten⟩, star_pu.2 ⟨⟨by simp [List.replicate_succ], hc⟩, fun _ => False, fun _ => False, ⟨fun _ h => h.1, fun _ => by simp⟩, h0 H, rowsA_zero R x c hc h0 m H⟩⟩
theorem Sat.emptyI {w : World} {A : Asn} (h : Sat E w Γ) (h0 : ∀ H, A.h H (fun _ => False)) : Sat E w (A :: Γ) := h.empI.ent (fun H F hF => ⟨fun _ => False, fun _ h => h.elim, h0 H⟩)
theorem fill_set {α : Type} (l : List α) (z : α) (k : Nat) (h : k < l.length) : (l.take k ++ List.replicate (l.length - k) z).set k l[k] = l.take (k + 1) ++ List.replicate (l.length - (k + 1)) z := by
  have e : l.length - k = (l.length - (k + 1)) + 1 := by omega
  rw [e, List.replicate_succ, List.set_append_right _ _ (by simp; omega)]
  have e2 : k - (l.take k).length = 0 := by simp; omega
  rw [e2, List.set_cons_zero, List.take_succ_eq_append_getElem h, List.append_assoc]
  rfl
theorem fill_len {α : Type} (l : List α) (z : α) (k : Nat) (h : k ≤ l.length) : (l.take k ++ List.replicate (l.length - k) z).length = l.length := by simp; omega
theorem fill_all {α : Type} (l : List α) (z : α) (k : Nat) (h : l.length ≤ k) : l.take k ++ List.replicate (l.length - k) z = l := by
  have e : l.length - k = 0 := by omega
  rw [e, List.take_of_length_le h]; simp
end Go.Proofs.YtfnaplhjkapghaaDoor.Sp
