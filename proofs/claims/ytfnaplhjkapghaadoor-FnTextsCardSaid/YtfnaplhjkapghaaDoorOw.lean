/- Owned slices of owned elements: stores, appends. -/
import Derived.Test.YtfnaplhjkapghaaDoorQu
import Derived.Great.BuildSlice
set_option linter.unusedVariables false
set_option linter.unusedSimpArgs false
namespace Go.Proofs.YtfnaplhjkapghaaDoor.Sp
open Go Go.RowKit
variable {P : Program} {N : Nat} {E : Env} {l0 : List Oper} {rest : List Oper} {L : Slots} {Γ : List Asn} {Q : Exit → Act → World → Prop}
variable {d : Nat} {ty : TypeId} {pos : String} {af : Array Edge} {v : Value}
theorem load_whole {T T' n g : Nat} {w : World} {c : List Value} {z : Nat × Nat} (h : Str P T n) (hb : w.heap[g]? = some (.cells c.toArray T' z)) (hl : c.length = n) : (loadVar T ⟨g, 0, none⟩).run P w = .ok (.agg c.toArray) w :=
  load_str h hl (has_blk hb (by simp))
theorem WO.memw {ops : Array Oper} {l : List Oper} (h : ∀ w, Sat E w Γ → WO P N E ops l L Γ Q) : WO P N E ops l L Γ Q := fun a w hr hs => h w hs a w hr hs
theorem Sat.front {w : World} (Δ : List Asn) {Γ : List Asn} (h : Sat E w (Δ ++ Γ)) : Sat E w Δ := by
  have h2 := h.perm (List.perm_append_comm)
  induction Γ with
  | nil => simpa using h2
  | cons A Γ ih => exact ih ((Sat.drop h2).perm List.perm_append_comm) (Sat.drop h2)
theorem Sat.first {w : World} {A : Asn} (h : Sat E w (A :: Γ)) : Sat E w [A] := Sat.front [A] h
theorem Sat.first2 {w : World} {A B : Asn} (h : Sat E w (A :: B :: Γ)) : Sat E w [A, B] := Sat.front [A, B] h
theorem Sat.none {w : World} (h : Sat E w Γ) : Sat E w [] := Sat.front [] h
theorem row_cells {w : World} {T n m : Nat} {cs : List Value} (h : Sat E w (Row T n v m cs :: Γ)) : v.cells = #[v] := by
  rcases h.row1 with ⟨⟨rfl, _, _⟩, _⟩ | ⟨g, cap, cur, hr, _⟩
  · rfl
  · rw [hr.hv]; rfl
theorem row_one {w : World} {T n m : Nat} {cs : List Value} (h : Sat E w (Row T n v m cs :: Γ)) : v.cells = #[v] ∧ v.oneCell' = true := by
  rcases h.row1 with ⟨⟨rfl, _, _⟩, _⟩ | ⟨g, cap, cur, hr, _⟩
  · exact ⟨rfl, rfl⟩
  · rw [hr.hv]; exact ⟨rfl, rfl⟩
theorem own_one {α : Type} {w : World} {T : Nat} {R : Rep α} {xs : List α} (h : Sat E w (OwnL T R v xs :: Γ)) : v.cells = #[v] ∧ v.oneCell' = true := let ⟨_, h⟩ := h.ownL1; row_one h
theorem ownL_cells {α : Type} {w : World} {T : Nat} {R : Rep α} {xs : List α} (h : Sat E w (OwnL T R v xs :: Γ)) : v.cells = #[v] := let ⟨_, h⟩ := h.ownL1; row_cells h
theorem WO.head {ops : Array Oper} {l : List Oper} {A : Asn} (B : Asn) (hg : ∀ w, Sat E w (A :: Γ) → Sat E w (B :: Γ)) (h : WO P N E ops l L (B :: Γ) Q) : WO P N E ops l L (A :: Γ) Q := WO.mem hg h
theorem WC.head {c : Code} {A : Asn} (B : Asn) (hg : ∀ w, Sat E w (A :: Γ) → Sat E w (B :: Γ)) (h : WC P N E c L (B :: Γ) Q) : WC P N E c L (A :: Γ) Q := WC.mem hg h
theorem Sat.ent2 {w : World} {A B C : Asn} (he : Ent1 (.star A B) C) (h : Sat E w (A :: B :: Γ)) : Sat E w (C :: Γ) := Sat.ent he h.starI
theorem own_facts {α : Type} {R : Rep α} {w : World} {x : α} {cs : List Value} (h : Sat E w (R.own x cs :: Γ)) : cs.length = R.n ∧ ∀ u ∈ cs, u.oneCell' = true := by
  obtain ⟨F, hf⟩ := h.head
  exact ⟨R.len (R.own_rd hf), R.one (R.own_rd hf)⟩
/-- an owned element stored into an owned slice -/
theorem WO.stO {α : Type} {R : Rep α} {T T' m g cap i : Nat} {cs : List Value} {x y : Operand} {e : α} {xs : List α} {u : Value} (hT : ∃ inf, P.info? T = some inf ∧ inf.size = R.n) (hx : ev L x = some (.pointer (some ⟨g, i * R.n, none⟩))) (hy : ev L y = some u) (hu : u.cells = cs.toArray) (hi : i < xs.length)
    (h : WO P N E l0.toArray rest L (OwnL T' R (.slice (some ⟨g, 0, none⟩) m cap) (xs.set i e) :: Γ) Q) :
    WO P N E l0.toArray (⟨none, .store T x y, ty, pos, af, none⟩ :: rest) L (R.own e cs :: OwnL T' R (.slice (some ⟨g, 0, none⟩) m cap) xs :: Γ) Q := by
  intro a w hf hs
  obtain ⟨hn, h1⟩ := own_facts hs
  obtain ⟨ch, hs1⟩ := hs.pull2.ownL1
  have hm : m = xs.length := by
    rcases hs1.row1 with ⟨⟨h0, _, _⟩, _⟩ | ⟨g', cap', cur, hr, _⟩
    · cases h0
    · have := hr.hv; simp only [Value.slice.injEq] at this; exact this.2.1
  subst hm
  refine WO.stE hT hx hy hu hn h1 hi (WO.mem (fun w' hw' => ?_) h) a w hf hs1
  have h2 := ((hw'.pull 1 (.s .z)).pull 2 (.s (.s .z))).pull2
  exact Sat.ownLI (ch := ch.take (i * R.n) ++ cs ++ ch.drop (i * R.n + R.n)) (by simpa using (h2.ent2 (rowsA_set R e cs hn xs i ch hi)).pull2)
theorem rowsA_snoc {α : Type} (R : Rep α) (x : α) (c : List Value) (hc : c.length = R.n) : ∀ (xs : List α) (ch : List Value), Ent1 (.star (rowsA R xs ch) (R.own x c)) (rowsA R (xs ++ [x]) (ch ++ c))
  | [], ch => by
    rintro H F ⟨F1, F2, hs, ⟨rfl, h0⟩, b⟩
    refine ⟨F2, fun k hk => (hs.2 k).2 (.inr hk), ⟨c, []⟩, star_pu.2 ⟨⟨by simp, hc⟩, F2, fun _ => False, ⟨fun _ h => h.2, fun _ => (iff_of_eq (or_false _)).symm⟩, b, rfl, fun _ h => h⟩⟩
  | y :: ys, ch => by
    rintro H F ⟨F1, F2, hs, ⟨⟨c1, e⟩, h1⟩, b⟩
    obtain ⟨⟨rfl, hn⟩, F3, F4, hs', a1, a2⟩ := star_pu.1 h1
    simp only at hn a1 a2
    obtain ⟨G, hG, r⟩ := rowsA_snoc R x c hc ys e H (fun k => F4 k ∨ F2 k) ⟨F4, F2, ⟨fun k hk => hs.1 k ⟨(hs'.2 k).2 (.inr hk.1), hk.2⟩, fun _ => Iff.rfl⟩, a2, b⟩
    refine ⟨fun k => F3 k ∨ G k, fun k hk => ?_, ⟨c1, _⟩, star_pu.2 ⟨⟨by simp, hn⟩, F3, G, ⟨fun k hk => ?_, fun _ => Iff.rfl⟩, a1, r⟩⟩
    · rcases hk with hk | hk
      · exact (hs.2 k).2 (.inl ((hs'.2 k).2 (.inl hk)))
      · rcases hG k hk with h4 | h2
        · exact (hs.2 k).2 (.inl ((hs'.2 k).2 (.inr h4)))
        · exact (hs.2 k).2 (.inr h2)
    · rcases hG k hk.2 with h4 | h2
      · exact hs'.1 k ⟨hk.1, h4⟩
      · exact hs.1 k ⟨(hs'.2 k).2 (.inl hk.1), h2⟩
/-- the operands of a dense literal, from its first place on -/
def evd (L : Slots) : Nat → List (Nat × Operand) → Option (List Value)
  | _, [] => some []
  | i, (j, x) :: l => bif Nat.beq i j then (match ev L x, evd L (i + 1) l with
    | some v, some vs => some (v :: vs)
    | _, _ => none) else none
theorem evd_map {a : Act} (hf : Fr N a L) : ∀ {ps : List (Nat × Operand)} {i : Nat} {vs : List Value}, evd L i ps = some vs → ps.map (fun p => (p.1, a.eval p.2)) = (vs.zipIdx i).map (fun p => (p.2, p.1))
  | [], i, vs, e => by simp [evd] at e; subst e; rfl
  | (j, x) :: ps, i, vs, e => by
    simp only [evd] at e
    cases hb : Nat.beq i j with
    | false => rw [hb] at e; simp at e
    | true =>
      have hij := Nat.eq_of_beq_eq_true hb
      subst hij
      rw [hb] at e
      simp only [cond_true] at e
      split at e
      · rename_i v us hv hus
        obtain rfl := Option.some.inj e
        rw [List.map_cons, List.zipIdx_cons, List.map_cons, evd_map hf hus, hf.ev hv]
      · cases e
/-- a literal: a block of its elements' cells -/
theorem WO.bs {t T n b len : Nat} {z : Value} {ps : List (Nat × Operand)} {vs : List Value} {c : List Value} (hT : Sli P t T n b z) (hd : Nat.ble (d + 1) N = true) (hx : evd L 0 ps = some vs) (hlen : vs.length = len) (hp : 0 < len) (hs : ∀ v ∈ vs, v.cells.size = n) (hc : vs.flatMap (fun v => v.cells.toList) = c) (hsm : len * n ≤ 16777216)
    (k : ∀ g, WO P N E l0.toArray rest ((d, .slice (some ⟨g, 0, none⟩) len len) :: L) (.blk g (.cells c.toArray T (0, 0)) :: Γ) Q) :
    WO P N E l0.toArray (⟨some d, .buildSlice t len ps.toArray, ty, pos, af, none⟩ :: rest) L Γ Q :=
  WO.stepE (val := fun g => .slice (some ⟨g, 0, none⟩) len len) (Γ' := fun g => .blk g (.cells c.toArray T (0, 0)) :: Γ) hd (fun a w hf hw => by
    obtain ⟨i, ht, hi, hn', hby, hz, hzs, hsz⟩ := hT
    subst hn'
    have hpos : 0 < len * i.size := Nat.mul_pos hp hsz
    have hfill := Great.fill_whole hsz vs ((Array.range (len * i.size)).map (z.cells[· % z.cells.size]!)) hs (by simp [hlen])
    have hmap : (ps.toArray.map fun p => (p.1, a.eval p.2)).toList = (vs.zipIdx 0).map (fun p => (p.2, p.1)) := by simp [evd_map hf hx]
    have hr := run_buildSlice (P := P) w t T len (ps.toArray.map fun p => (p.1, a.eval p.2)) c.toArray i z ht hi hz (by omega) (by omega) (by rw [hmap, hfill, hc])
    refine ⟨w.heap.size, w.alloc (.cells c.toArray T), ?_, hw.alloc _⟩
    simp only [execOp, Sem.run_bind]
    rw [hr]; rfl) k
end Go.Proofs.YtfnaplhjkapghaaDoor.Sp
