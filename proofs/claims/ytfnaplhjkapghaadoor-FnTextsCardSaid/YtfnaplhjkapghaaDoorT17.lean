/- A part of the proofs of this seat: contracts of the functions that its statements reach. -/
import Derived.Test.YtfnaplhjkapghaaDoorT16
import Derived.Test.YtfnaplhjkapghaaDoorProg
set_option linter.unusedVariables false
set_option linter.unusedSimpArgs false
set_option maxRecDepth 4000
namespace Go.Proofs.YtfnaplhjkapghaaDoor
open Go Go.RowKit Go.Proofs.YtfnaplhjkapghaaDoor.Sp


theorem Sp.WO.stR {P : Program} {N : Nat} {E : Env} {l0 rest : List Oper} {L : Slots} {Γ : List Asn} {Q : Exit → Act → World → Prop} {ty : TypeId} {pos : String} {af : Array Edge} {T T' n m c g j : Nat} {cs : List Value} {x y : Operand} {u : Value}
    (hT : ∃ inf, P.info? T = some inf ∧ inf.size = 1) (hx : ev L x = some (.pointer (some ⟨g, j, .none⟩))) (hy : ev L y = some u) (hu : u.cells = #[u]) (hn : u.oneCell' = true) (hj : j < cs.length)
    (h : WO P N E l0.toArray rest L (Row T' n (.slice (some ⟨g, 0, .none⟩) m c) m (cs.set j u) :: Γ) Q) :
    WO P N E l0.toArray (⟨.none, .store T x y, ty, pos, af, .none⟩ :: rest) L (Row T' n (.slice (some ⟨g, 0, .none⟩) m c) m cs :: Γ) Q :=
  WO.stepU (fun a w hf hs => by
    rcases hs.row1 with ⟨⟨e, _, _⟩, _⟩ | ⟨g', cap, cur, hr, hb⟩
    · cases e
    · have e := hr.hv
      cases e
      have hjc : j < cur.length := by have h1 := congrArg List.length hr.tk; rw [List.length_take] at h1; omega
      have hset := hb.set j u
      rw [show cur.toArray.setIfInBounds j u = (cur.set j u).toArray by simp] at hset
      refine ⟨_, ?_, Sat.rowI ⟨rfl, hr.le, hr.hc, by rw [List.length_set]; exact hr.sz, by rw [List.take_set, hr.tk]⟩ hset⟩
      simp [execOp, hf.ev hx, hf.ev hy, Instr.storeAt, Instr.sureAddr, Sem.run_bind, Result.andThen, store_one hT hu hb.blk hjc hn]) h
theorem set3 (X Y : List Value) (a0 b0 d0 a b d : Value) : (((X ++ a0 :: b0 :: d0 :: Y).set X.length a).set (X.length + 1) b).set (X.length + 2) d = X ++ a :: b :: d :: Y := by
  induction X with
  | nil => rfl
  | cons x X ih => simp [Nat.add_right_comm]
theorem flat_len (l : List Part) : (l.flatMap cPart).length = l.length * 3 := by
  induction l with
  | nil => rfl
  | cons p r ih => rw [List.flatMap_cons, List.length_append, ih]; simp [cPart]; omega
theorem mark_len (k n : Nat) (l : List Part) (i : Nat) (hl : l.length = n) (hi : i ≤ n) : ((mkL3 k i ++ l.drop i).flatMap cPart).length = n * 3 := by
  rw [flat_len, List.length_append, mkL3_len, List.length_drop]; congr 1; omega
theorem mkL3_snoc (k i : Nat) : mkL3 k (i + 1) = mkL3 k i ++ [⟨((k + 3 * i : Nat) : Int), ((k + 3 * i + 1 : Nat) : Int), 109 :: mtx (k + 3 * i + 2) []⟩] := by
  simp [mkL3, List.range_succ]
theorem mark_step (k n : Nat) (l : List Part) (i : Nat) (hl : l.length = n) (hi : i < n) :
    (((((mkL3 k i ++ l.drop i).flatMap cPart).set (i * 3 + 0) (.int .i64 ((k + 3 * i : Nat) : Int))).set (i * 3 + 1) (.int .i64 ((k + 3 * i + 1 : Nat) : Int))).set (i * 3 + 2) (str (109 :: mtx (k + 3 * i + 2) []))) = (mkL3 k (i + 1) ++ l.drop (i + 1)).flatMap cPart := by
  rw [dropP (show i < l.length by omega), mkL3_snoc]
  have hX : ((mkL3 k i).flatMap cPart).length = i * 3 := by rw [flat_len, mkL3_len]
  simp only [List.flatMap_append, List.flatMap_cons, List.append_assoc, List.flatMap_nil]
  have := set3 ((mkL3 k i).flatMap cPart) ((l.drop (i + 1)).flatMap cPart) (.int .i64 (l.getD i p0).keep) (.int .i64 (l.getD i p0).drop) (str (l.getD i p0).put) (.int .i64 ((k + 3 * i : Nat) : Int)) (.int .i64 ((k + 3 * i + 1 : Nat) : Int)) (str (109 :: mtx (k + 3 * i + 2) []))
  rw [hX] at this
  exact this
theorem mark_done (k n : Nat) (l : List Part) (i : Nat) (hl : l.length = n) (h : i = n) : (mkL3 k i ++ l.drop i).flatMap cPart = (mkL3 k n).flatMap cPart := by
  subst h; rw [List.drop_of_length_le (Nat.le_of_eq hl), List.append_nil]

/-! laws.markPartS -/
theorem markC {E : Env} {Γ : List Asn} (k n : Nat) (l : List Part) (A : Option Addr) (c : Nat) (hl : l.length = n) (h0 : 0 < k) (hn : k + 3 * n ≤ 1099511627776) :
    CF Tryd.prog E 8 [.slice A n c, .int .i64 (k : Int)] (fun _ : Unit => .int .i64 ((k + 3 * n : Nat) : Int)) (Row 36 3 (.slice A n c) n (l.flatMap cPart) :: Γ) (fun _ => Row 36 3 (.slice A n c) n ((mkL3 k n).flatMap cPart) :: Γ) := by
  intro w hw
  refine enter Tryd.func8 rfl rfl rfl hw ?_
  simp only [mkL]
  refine WC.seq ?_
  refine WC.region ?_
  refine WO.val (.asg (.r rfl)) rfl ?_
  refine WO.nil ?_
  refine KQ.seq ?_
  refine WC.seq ?_
  refine WC.seq ?_
  refine WC.region ?_
  refine WO.val (.asg (.r rfl)) rfl ?_
  refine WO.nil ?_
  refine KQ.seq ?_
  refine WC.block ?_
  refine WC.loop (σ := {i : Nat // i ≤ n}) (fun q => [(0, .slice A n c), (1, .int .i64 ((k + 3 * q.1 : Nat) : Int)), (5, .int .i64 (q.1 : Nat))]) (fun q => (Row 36 3 (.slice A n c) n ((mkL3 k q.1 ++ l.drop q.1).flatMap cPart) :: Γ)) (fun q => n - q.1) (⟨0, Nat.zero_le _⟩) (by exact ⟨rfl, rfl, rfl, trivial⟩) (fun w hw => hw) ?_
  rintro ⟨i, hin⟩
  dsimp only
  refine WC.seq ?_
  refine WC.seq ?_
  refine WC.region ?_
  refine WO.val (.mv (.r rfl)) rfl ?_
  refine WO.val (.mv (.r rfl)) rfl ?_
  refine WO.val (.len sli_22 (.r rfl)) rfl ?_
  refine WO.val (.bin (.r rfl) (.r rfl) rfl) rfl ?_
  refine WO.nil ?_
  refine KQ.seq ?_
  refine WC.cond rfl (fun c1 => ?_) (fun c1 => ?_)
  · have hk := lt_of_dec c1
    refine WC.fact (fun w hw => hw.rowSome (by omega)) fun hv => ?_
    obtain ⟨g, c9, hv, _, _⟩ := hv
    cases hv
    refine WC.skip ?_
    refine KQ.seq ?_
    refine WC.seq ?_
    refine WC.block ?_
    refine WC.seq ?_
    refine WC.region ?_
    refine WO.val (.mv (.r rfl)) rfl ?_
    refine WO.val (.mv (.r rfl)) rfl ?_
    refine WO.val (.mv (.r rfl)) rfl ?_
    refine WO.val (.ixg sli_22 (.r rfl) (.r rfl) hk) rfl ?_
    refine WO.val (.faL fld_36_0 (.r rfl) rfl) rfl ?_
    refine WO.stR (j := i * 3 + 0) one_3.sz rfl rfl rfl rfl (by (repeat rw [List.length_set]); rw [mark_len k n l i hl (by omega)]; omega) ?_
    refine WO.nil ?_
    refine KQ.seq ?_
    refine WC.seq ?_
    refine WC.region ?_
    refine WO.val (.mv (.r rfl)) rfl ?_
    refine WO.val (.bin (.r rfl) (.r rfl) (pb_inc (by omega))) rfl ?_
    refine WO.val (.asg (.r rfl)) rfl ?_
    refine WO.nil ?_
    refine KQ.seq ?_
    refine WC.seq ?_
    refine WC.region ?_
    refine WO.val (.mv (.r rfl)) rfl ?_
    refine WO.val (.mv (.r rfl)) rfl ?_
    refine WO.val (.mv (.r rfl)) rfl ?_
    refine WO.val (.ixg sli_22 (.r rfl) (.r rfl) hk) rfl ?_
    refine WO.val (.faL fld_36_1 (.r rfl) rfl) rfl ?_
    refine WO.stR (j := i * 3 + 1) one_3.sz rfl rfl rfl rfl (by (repeat rw [List.length_set]); rw [mark_len k n l i hl (by omega)]; omega) ?_
    refine WO.nil ?_
    refine KQ.seq ?_
    refine WC.seq ?_
    refine WC.region ?_
    refine WO.val (.mv (.r rfl)) rfl ?_
    refine WO.val (.bin (.r rfl) (.r rfl) (pb_inc (by omega))) rfl ?_
    refine WO.val (.asg (.r rfl)) rfl ?_
    refine WO.nil ?_
    refine KQ.seq ?_
    refine WC.seq ?_
    refine WC.region ?_
    refine WO.val (.mv (.r rfl)) rfl ?_
    refine WO.val (.mv (.r rfl)) rfl ?_
    refine WO.val (.mv (.r rfl)) rfl ?_
    refine WO.callS rfl ent_23 rfl (fun w hw => markTextC (k + 3 * i + 2) (by omega) (by omega) w) ?_
    refine WO.val (.ixg sli_22 (.r rfl) (.r rfl) hk) rfl ?_
    refine WO.val (.faL fld_36_2 (.r rfl) rfl) rfl ?_
    refine WO.stR (j := i * 3 + 2) one_9.sz rfl rfl rfl rfl (by (repeat rw [List.length_set]); rw [mark_len k n l i hl (by omega)]; omega) ?_
    refine WO.nil ?_
    refine KQ.seq ?_
    refine WC.region ?_
    refine WO.val (.mv (.r rfl)) rfl ?_
    refine WO.val (.bin (.r rfl) (.r rfl) (pb_inc (by omega))) rfl ?_
    refine WO.val (.asg (.r rfl)) rfl ?_
    refine WO.nil ?_
    refine KQ.blockN (KQ.seq ?_)
    refine WC.region ?_
    refine WO.val (.mv (.r rfl)) rfl ?_
    refine WO.val (.bin (.r rfl) (.r rfl) (pb_inc (by omega))) rfl ?_
    refine WO.val (.asg (.r rfl)) rfl ?_
    refine WO.nil ?_
    refine KQ.again (⟨i + 1, hk⟩) (by dsimp only; omega) (by exact ⟨rfl, rfl, rfl, trivial⟩) (fun w hw => by have h9 := hw; rw [mark_step k n l i hl hk] at h9; exact h9)
  · refine WC.exit ?_
    refine KQ.thenX (KQ.thenX (KQ.blockX (KQ.seq ?_)))
    refine WC.seq ?_
    refine WC.region ?_
    refine WO.val (.mv (.r rfl)) rfl ?_
    refine WO.val (.asg (.r rfl)) rfl ?_
    refine WO.nil ?_
    refine KQ.seq ?_
    refine WC.ret ?_
    exact KQ.fin rfl (.tmp rfl .nil) (fun w hw => ⟨(), by have := ge_of_dec c1; rw [show n = i by omega]; rfl, by rw [← mark_done k n l i hl (by have := ge_of_dec c1; omega)]; exact hw⟩)
end Go.Proofs.YtfnaplhjkapghaaDoor
