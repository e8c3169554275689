/- A part of the proofs of this seat: contracts of the functions that its statements reach. -/
import Derived.Test.YtfnaplhjkapghaaDoorSt
import Derived.Test.YtfnaplhjkapghaaDoorZn
import Derived.Test.YtfnaplhjkapghaaDoorT24
import Derived.Test.YtfnaplhjkapghaaDoorProg
set_option linter.unusedVariables false
set_option linter.unusedSimpArgs false
set_option maxRecDepth 4000
namespace Go.Proofs.YtfnaplhjkapghaaDoor
open Go Go.RowKit Go.Proofs.YtfnaplhjkapghaaDoor.Sp
theorem ent_54 : Ent Tryd.prog 54 := ent_of Tryd.prog Tryd.func54 rfl rfl
theorem ent_73 : Ent Tryd.prog 73 := ent_of Tryd.prog Tryd.func73 rfl rfl

def putStrs : List (List UInt8) := [[97], [120, 121], [90, 122, 57], [0], [255, 254], [119, 111, 114, 100, 32]]
theorem putStrs_le {x : List UInt8} (h : x ∈ putStrs) : x.length ≤ 5 := by
  simp [putStrs] at h; rcases h with rfl | rfl | rfl | rfl | rfl | rfl <;> simp
theorem blk_at {w : World} {g T k : Nat} {z : Nat × Nat} {c : List Value} {u : Value} (h : w.heap[g]? = some (.cells c.toArray T z)) (hu : c[k]? = some u) : w.cell? ((⟨g, 0, none⟩ : Addr).add (k * 1)) = some u := by
  have := has_blk (o := 0) h (cs := c) (by simp) k u hu
  rw [Nat.mul_one]; exact this
theorem strs_at {ss : List (List UInt8)} {k : Nat} (hk : k < ss.length) : (ss.map str)[k]? = some (str (ss.getD k [])) := by simp [List.getD, hk]
theorem getD_memL {ss : List (List UInt8)} {k : Nat} (hk : k < ss.length) : ss.getD k [] ∈ ss := by simp [List.getD, hk]
def mergeP (a b : Part) : Part := ⟨IntKind.i64.wrap (a.keep + b.keep), IntKind.i64.wrap (a.drop + b.drop), a.put ++ b.put⟩
def isP0 (p : Part) : Bool := p.keep == 0 && (p.drop == 0 && (p.put == [] && true))
def joinsP (l : List Part) (p : Part) : Bool := decide ((l.length : Int) > 0) && (kindP (l.getD (l.length - 1) p0) == kindP p)
def addP (l : List Part) (p : Part) : List Part := if isP0 p = true then l else if joinsP l p = true then l.set (l.length - 1) (mergeP (l.getD (l.length - 1) p0) p) else l ++ [p]
theorem addP_0 {l : List Part} {p : Part} (h : isP0 p = true) : addP l p = l := by rw [addP, if_pos h]
theorem addP_j {l : List Part} {p : Part} (h : isP0 p = false) (h2 : joinsP l p = true) : addP l p = l.set (l.length - 1) (mergeP (l.getD (l.length - 1) p0) p) := by rw [addP, if_neg (by rw [h]; decide), if_pos h2]
theorem addP_n {l : List Part} {p : Part} (h : isP0 p = false) (h2 : joinsP l p = false) : addP l p = l ++ [p] := by rw [addP, if_neg (by rw [h]; decide), if_neg (by rw [h2]; decide)]
theorem addP_len (l : List Part) (p : Part) : (addP l p).length ≤ l.length + 1 := by
  unfold addP; split
  · omega
  · split <;> simp
def putsLe (B : Nat) (l : List Part) : Prop := ∀ p ∈ l, p.put.length ≤ B
theorem putsLe_mono {A B : Nat} {l : List Part} (h : A ≤ B) (k : putsLe A l) : putsLe B l := fun p hp => Nat.le_trans (k p hp) h
theorem addP_puts {B : Nat} {l : List Part} {p : Part} (h : putsLe B l) : putsLe (B + p.put.length) (addP l p) := by
  intro q hq
  unfold addP at hq
  split at hq
  · exact Nat.le_trans (h q hq) (by omega)
  · split at hq
    · rename_i hj
      rcases List.mem_or_eq_of_mem_set hq with hq | rfl
      · exact Nat.le_trans (h q hq) (by omega)
      · have hl : 0 < l.length := by
          unfold joinsP at hj; simp at hj; have := hj.1; cases l with | nil => simp at this | cons _ _ => simp
        have := h _ (getD_mem (show l.length - 1 < l.length by omega))
        simp [mergeP, -List.getD_eq_getElem?_getD]; omega
    · rcases List.mem_append.1 hq with hq | hq
      · exact Nat.le_trans (h q hq) (by omega)
      · rw [List.mem_singleton.1 hq]; omega
theorem seqPart : Seq Tryd.prog 36 := ⟨by kernel_rfl, by kernel_rfl, by kernel_rfl⟩
theorem eqlPart (p q : Part) : EqL Tryd.prog (cPart p).toArray (cPart q).toArray [(false, 3, 0), (false, 3, 1), (false, 9, 2)] (p.keep == q.keep && (p.drop == q.drop && (p.put == q.put && true))) :=
  .cons (by kernel_rfl) rfl rfl (eql_int Tryd.underlying3 p.keep q.keep) (.cons (by kernel_rfl) rfl rfl (eql_int Tryd.underlying3 p.drop q.drop) (.cons (by kernel_rfl) rfl rfl (eql_str Tryd.underlying9 p.put q.put) .nil))
theorem sigPart : (Tryd.prog.fieldsOf 36).toList.map sig = [(false, 3, 0), (false, 3, 1), (false, 9, 2)] := by kernel_rfl
theorem partEq (p q : Part) (w : World) : (Op.eqFields 9999 (cPart p).toArray (cPart q).toArray (Tryd.prog.fieldsOf 36).toList).run Tryd.prog w = .ok (p.keep == q.keep && (p.drop == q.drop && (p.put == q.put && true))) w := (eqlPart p q).run sigPart w
theorem sliPart_sz : ∃ inf, Tryd.prog.info? 36 = some inf ∧ inf.size = 3 := (str_36).sz
theorem pb_addW {a b : Int} : pbin .add (.int .i64 a) (.int .i64 b) = some (.int .i64 (IntKind.i64.wrap (a + b))) := rfl
theorem reps0 (m : Nat) : (List.replicate m (Value.int .u8 0).cells.toList).flatten = (List.replicate m (0 : UInt8)).map vB := by
  induction m with
  | zero => rfl
  | succ m ih => rw [List.replicate_succ, List.flatten_cons, ih, List.replicate_succ, List.map_cons]; rfl

/-! (*spec.l1Cur).of -/
theorem ofC {E : Env} {Γ : List Asn} {g : Nat} {A : Option Addr} {c B : Nat} {l : List UInt8} (hr : RdL E.H0 rB A l) (hB : B + 2 ≤ 1152921504606846976) (g2 m : Nat) (ss : List (List UInt8)) (hm : ss.length = m) (h0 : 0 < m) (h1 : m ≤ 1048576) :
    CF Tryd.prog E 73 [.pointer (some ⟨g, 0, none⟩), .slice (some ⟨g2, 0, none⟩) m m] str (Cur g A l.length c B :: .blk g2 (.cells (ss.map str).toArray 9 (0, 0)) :: Γ) (fun x => .pu (x ∈ ss) :: Cur g A l.length c (B + 2) :: Γ) := by
  intro w hw
  refine enter Tryd.func73 rfl rfl rfl hw ?_
  simp only [mkL]
  refine WC.seq ?_
  refine WC.region ?_
  refine WO.val (.asg (.r rfl)) rfl ?_
  refine WO.nil ?_
  refine KQ.seq ?_
  refine WC.seq ?_
  refine WC.region ?_
  refine WO.val (.mv (.r rfl)) rfl ?_
  refine WO.val (.mv (.r rfl)) rfl ?_
  refine WO.val (.mv (.r rfl)) rfl ?_
  refine WO.val (.len sli_33 (.r rfl)) rfl ?_
  refine WO.draw 0 .z rfl ent_38 rfl (pickD m (by omega)) hr (by omega) fun x9 h9 => ?_
  obtain ⟨k, rfl⟩ : ∃ k : Nat, x9 = (k : Int) := ⟨x9.toNat, by unfold pickOk at h9; omega⟩
  have hk : k < ss.length := by unfold pickOk at h9; omega
  refine WO.val (.ixn (k := k) sli_33 (.r rfl) (.r rfl) (by omega)) rfl ?_
  refine WO.val (.ld (v := str (ss.getD k [])) one_9 (.r rfl) (fun w hw => blk_at (hw.blkAt (k := 1) rfl) (strs_at hk))) rfl ?_
  refine WO.val (.asg (.r rfl)) rfl ?_
  refine WO.nil ?_
  refine KQ.seq ?_
  refine WC.ret ?_
  exact KQ.fin rfl (.tmp rfl .nil) (fun w hw => ⟨ss.getD k [], rfl, Sat.pureI (getD_memL hk) (hw.pull 1 (.s .z)).drop⟩)
/-! (*spec.l1Cur).put -/
theorem putD : DC 55 [] str 2 (fun x => x.length ≤ 5) := by
  intro E Γ g A c B l hr hB w hw
  refine enter Tryd.func55 rfl rfl rfl hw ?_
  simp only [mkL]
  refine WC.seq ?_
  refine WC.region ?_
  refine WO.val (.asg (.r rfl)) rfl ?_
  refine WO.nil ?_
  refine KQ.seq ?_
  refine WC.seq ?_
  refine WC.region ?_
  refine WO.val (.mv (.r rfl)) rfl ?_
  refine WO.bs (vs := putStrs.map str) (c := putStrs.map str) sli_33 rfl rfl rfl (by decide) (by intro v hv; obtain ⟨x, _, rfl⟩ := List.mem_map.1 hv; rfl) rfl (by decide) fun g2 => ?_
  refine WO.pull 1 (.s .z) ?_
  refine WO.call rfl ent_73 rfl (ofC hr (by omega) g2 6 putStrs rfl (by decide) (by decide)) fun x5 => ?_
  refine WO.fact (fun w hw => (Sat.pure1 hw).1) fun h5 => ?_
  refine WO.drop ?_
  refine WO.val (.asg (.r rfl)) rfl ?_
  refine WO.nil ?_
  refine KQ.seq ?_
  refine WC.ret ?_
  exact KQ.fin rfl (.tmp rfl .nil) (fun w hw => ⟨_, rfl, drawF (putStrs_le h5) (by omega) hw⟩)
/-! (*spec.l1Cur).part -/
theorem partD : DC 39 [] (fun p : Part => .agg (cPart p).toArray) 20 (fun p => p.put.length ≤ 121) := by
  intro E Γ g A c B l hr hB w hw
  refine enter Tryd.func39 rfl rfl rfl hw ?_
  simp only [mkL]
  refine WC.seq ?_
  refine WC.region ?_
  refine WO.al zer_36 rfl fun g1 => ?_
  refine WO.nil ?_
  refine KQ.seq ?_
  refine WC.seq ?_
  refine WC.seq ?_
  refine WC.region ?_
  refine WO.val (.mv (.r rfl)) rfl ?_
  refine WO.draw 1 (.s .z) rfl ent_38 rfl (pickD 5 (by decide)) hr (by omega) fun x4 h4 => ?_
  refine WO.nil ?_
  refine KQ.seq ?_
  refine WC.block ?_
  refine WC.seq ?_
  refine WC.region ?_
  refine WO.val (.bin (.r rfl) (.r rfl) rfl) rfl ?_
  refine WO.val (.asg (.r rfl)) rfl ?_
  refine WO.nil ?_
  refine KQ.seq ?_
  refine WC.cond rfl (fun c1 => ?_) (fun c1 => ?_)
  · refine WC.seq ?_
    refine WC.region ?_
    refine WO.val (.bld (c := cPart p0) (vs := []) bldPart rfl rfl) rfl ?_
    refine WO.stW (k := 1) str_36 rfl rfl rfl rfl rfl rfl (by repeat constructor) ?_
    refine WO.nil ?_
    refine KQ.seq ?_
    refine WC.ret ?_
    exact KQ.blockR (KQ.thenR (KQ.fin rfl (.cell rfl (fun w hw => load_whole str_36 (hw.blkAt (k := 1) rfl) rfl) .nil) (fun w hw => ⟨p0, rfl, drawF (by simp [p0]) (by omega) ((hw.pull 1 (.s .z)).drop)⟩)))
  · refine WC.seq ?_
    refine WC.region ?_
    refine WO.val (.bin (.r rfl) (.r rfl) rfl) rfl ?_
    refine WO.val (.asg (.r rfl)) rfl ?_
    refine WO.nil ?_
    refine KQ.seq ?_
    refine WC.cond rfl (fun c2 => ?_) (fun c2 => ?_)
    · refine WC.seq ?_
      refine WC.region ?_
      refine WO.val (.mv (.r rfl)) rfl ?_
      refine WO.draw 0 .z rfl ent_54 rfl sizedD hr (by omega) fun x11 h11 => ?_
      refine WO.val (.bld (c := cPart ⟨x11, 0, []⟩) (vs := [(0, .int .i64 x11)]) bldPart rfl rfl) rfl ?_
      refine WO.stW (k := 1) str_36 rfl rfl rfl rfl rfl rfl (by repeat constructor) ?_
      refine WO.nil ?_
      refine KQ.seq ?_
      refine WC.ret ?_
      exact KQ.blockR (KQ.thenR (KQ.fin rfl (.cell rfl (fun w hw => load_whole str_36 (hw.blkAt (k := 1) rfl) rfl) .nil) (fun w hw => ⟨⟨x11, 0, []⟩, rfl, drawF (by simp) (by omega) ((hw.pull 1 (.s .z)).drop)⟩)))
    · refine WC.seq ?_
      refine WC.region ?_
      refine WO.val (.bin (.r rfl) (.r rfl) rfl) rfl ?_
      refine WO.val (.asg (.r rfl)) rfl ?_
      refine WO.nil ?_
      refine KQ.seq ?_
      refine WC.cond rfl (fun c3 => ?_) (fun c3 => ?_)
      · refine WC.seq ?_
        refine WC.region ?_
        refine WO.val (.mv (.r rfl)) rfl ?_
        refine WO.draw 0 .z rfl ent_54 rfl sizedD hr (by omega) fun x16 h16 => ?_
        refine WO.val (.bld (c := cPart ⟨0, x16, []⟩) (vs := [(1, .int .i64 x16)]) bldPart rfl rfl) rfl ?_
        refine WO.stW (k := 1) str_36 rfl rfl rfl rfl rfl rfl (by repeat constructor) ?_
        refine WO.nil ?_
        refine KQ.seq ?_
        refine WC.ret ?_
        exact KQ.blockR (KQ.thenR (KQ.fin rfl (.cell rfl (fun w hw => load_whole str_36 (hw.blkAt (k := 1) rfl) rfl) .nil) (fun w hw => ⟨⟨0, x16, []⟩, rfl, drawF (by simp) (by omega) ((hw.pull 1 (.s .z)).drop)⟩)))
      · refine WC.seq ?_
        refine WC.region ?_
        refine WO.val (.bin (.r rfl) (.r rfl) rfl) rfl ?_
        refine WO.val (.asg (.r rfl)) rfl ?_
        refine WO.nil ?_
        refine KQ.seq ?_
        refine WC.cond rfl (fun c4 => ?_) (fun c4 => ?_)
        · refine WC.seq ?_
          refine WC.region ?_
          refine WO.val (.bld (c := cPart ⟨1, 0, [97]⟩) (vs := [(0, .int .i64 1), (2, str [97])]) bldPart rfl rfl) rfl ?_
          refine WO.stW (k := 1) str_36 rfl rfl rfl rfl rfl rfl (by repeat constructor) ?_
          refine WO.nil ?_
          refine KQ.seq ?_
          refine WC.ret ?_
          exact KQ.blockR (KQ.thenR (KQ.fin rfl (.cell rfl (fun w hw => load_whole str_36 (hw.blkAt (k := 1) rfl) rfl) .nil) (fun w hw => ⟨⟨1, 0, [97]⟩, rfl, drawF (by simp) (by omega) ((hw.pull 1 (.s .z)).drop)⟩)))
        · refine WC.skip ?_
          refine KQ.blockN (KQ.seq ?_)
          refine WC.seq ?_
          refine WC.region ?_
          refine WO.val (.mv (.r rfl)) rfl ?_
          refine WO.draw 0 .z rfl ent_38 rfl (pickD 2 (by decide)) hr (by omega) fun x22 h22 => ?_
          obtain ⟨m, hm⟩ : ∃ m : Nat, 120 + x22 = (m : Int) := ⟨(120 + x22).toNat, by unfold pickOk at h22; omega⟩
          have hm2 : m ≤ 121 := by unfold pickOk at h22; omega
          refine WO.val (.bin (.r rfl) (.r rfl) (show pbin .add (.int .i64 120) (.int .i64 x22) = some (.int .i64 (m : Int)) from by rw [← hm]; exact pb_add (by omega) (by omega))) rfl ?_
          refine WO.mk (m := m) sli_28 rfl rfl rfl (by omega) (by omega) fun g3 => ?_
          refine WO.val (.cvT (l := List.replicate m 0) Tryd.underlying28 Tryd.underlying5 Tryd.underlying9 (.r rfl) (fun w hw => by rw [reps0] at hw; simpa using hw)) rfl ?_
          refine WO.drop ?_
          refine WO.val (.bld (c := cPart ⟨0, 0, List.replicate m 0⟩) (vs := [(2, str (List.replicate m 0))]) bldPart rfl rfl) rfl ?_
          refine WO.stW (k := 1) str_36 rfl rfl rfl rfl rfl rfl (by repeat constructor) ?_
          refine WO.nil ?_
          refine KQ.seq ?_
          refine WC.ret ?_
          exact KQ.fin rfl (.cell rfl (fun w hw => load_whole str_36 (hw.blkAt (k := 1) rfl) rfl) .nil) (fun w hw => ⟨⟨0, 0, List.replicate m 0⟩, rfl, drawF (by simp; omega) (by omega) ((hw.pull 1 (.s .z)).drop)⟩)
/-! spec.l1Add -/
theorem addC {E : Env} {Γ : List Asn} (l : List Part) (v : Value) (p : Part) (B : Nat) (hl : l.length ≤ 1048576) (hB : B ≤ 2305843009213693952) (hq : putsLe B l) (hp : p.put.length ≤ 2305843009213693952) :
    CF Tryd.prog E 56 [v, .agg (cPart p).toArray] (fun u : Value => u) (Row 36 3 v l.length (l.flatMap cPart) :: Γ) (fun u => Row 36 3 u (addP l p).length ((addP l p).flatMap cPart) :: Γ) := by
  intro w hw
  obtain ⟨A, cc, rfl⟩ := hw.rowAny
  refine enter Tryd.func56 rfl rfl rfl hw ?_
  simp only [mkL]
  refine WC.seq ?_
  refine WC.region ?_
  refine WO.bx rfl rfl rfl fun g1 => ?_
  refine WO.val (.asg (.r rfl)) rfl ?_
  refine WO.nil ?_
  refine KQ.seq ?_
  refine WC.seq ?_
  refine WC.seq ?_
  refine WC.region ?_
  refine WO.val (.ldW (k := 0) str_36 (.r rfl) rfl rfl) rfl ?_
  refine WO.val (.bld (c := cPart p0) (vs := []) bldPart rfl rfl) rfl ?_
  refine WO.val (.eqA (b := isP0 p) seqPart (.r rfl) (.r rfl) (partEq p p0)) rfl ?_
  refine WO.nil ?_
  refine KQ.seq ?_
  refine WC.cond rfl (fun c1 => ?_) (fun c1 => ?_)
  · refine WC.seq ?_
    refine WC.region ?_
    refine WO.val (.mv (.r rfl)) rfl ?_
    refine WO.val (.asg (.r rfl)) rfl ?_
    refine WO.nil ?_
    refine KQ.seq ?_
    refine WC.ret ?_
    exact KQ.thenR (KQ.fin rfl (.tmp rfl .nil) (fun w hw => ⟨_, rfl, by rw [addP_0 c1]; exact hw.drop⟩))
  · refine WC.skip ?_
    refine KQ.seq ?_
    refine WC.seq ?_
    refine WC.seq ?_
    refine WC.region ?_
    refine WO.val (.mv (.r rfl)) rfl ?_
    refine WO.val (.len sli_22 (.r rfl)) rfl ?_
    refine WO.val (.asg (.r rfl)) rfl ?_
    refine WO.nil ?_
    refine KQ.seq ?_
    refine WC.seq ?_
    refine WC.quiet (by kernel_rfl) (by kernel_rfl) ?_
    refine WQ.val (.mv (.r rfl)) rfl ?_
    refine WQ.val (.bin (.r rfl) (.r rfl) rfl) rfl ?_
    refine WQ.val (.mv (.r rfl)) rfl ?_
    refine WQ.gd rfl rfl rfl (fun h => (.mv (.r rfl))) ?_
    refine WQ.gd rfl rfl rfl (fun h => (.mv (.r rfl))) ?_
    refine WQ.gd rfl rfl rfl (fun h => (.bin (.g h rfl) (.r rfl) (pb_dec (by simp at h; omega) (by omega)))) ?_
    refine WQ.gd rfl rfl rfl (fun h => (.ixR (k := l.length - 1) (cs := l.flatMap cPart) sli_22 (.g h rfl) (.g h rfl) (by simp at h; omega) (fun w hw => hw.pull 1 (.s .z)))) ?_
    refine WQ.gd rfl rfl rfl (fun h => (.ldS (cs := cPart (l.getD (l.length - 1) p0)) str_36 (.g h rfl) rfl (fun w hw j u hu => Sat.rowAt (xs := l) (z := p0) (enc := cPart) (fun _ => rfl) (hw.pull 1 (.s .z)) (by simp at h; omega) j u hu))) ?_
    refine WQ.gdC rfl rfl rfl ent_29 (fun h => ⟨.cons (.g h rfl) (.nil), fun w hw => specKind (l.getD (l.length - 1) p0) w⟩) ?_
    refine WQ.gd rfl rfl rfl (fun h => (.ldW (k := 0) str_36 (.r rfl) rfl rfl)) ?_
    refine WQ.gdC rfl rfl rfl ent_29 (fun h => ⟨.cons (.g h rfl) (.nil), fun w hw => specKind p w⟩) ?_
    refine WQ.gd rfl rfl rfl (fun h => (.bin (.g h rfl) (.g h rfl) rfl)) ?_
    refine WQ.val (.and rfl rfl) rfl ?_
    refine WQ.nil ?_
    refine KQ.seq ?_
    refine WC.cond rfl (fun c2 => ?_) (fun c2 => ?_)
    · have c2 : joinsP l p = true := c2
      have hl0 : 0 < l.length := by unfold joinsP at c2; simp at c2; have := c2.1; cases l with | nil => simp at this | cons _ _ => simp
      refine WC.fact (fun w hw => (hw.pull 1 (.s .z)).rowSome hl0) fun hv => ?_
      obtain ⟨g2, c9, hv, _, _⟩ := hv
      cases hv
      refine WC.seq ?_
      refine WC.zoneG 32 (by kernel_rfl) ?_
      refine WZ.take 0 rfl (by kernel_rfl) (fun w hw => hw) (.mv (.r rfl)) rfl ?_
      refine WZ.take 1 rfl (by kernel_rfl) (fun w hw => hw) (.mv (.r rfl)) rfl ?_
      refine WZ.take 2 rfl (by kernel_rfl) (fun w hw => hw) (.bin (.r rfl) (.r rfl) (pb_dec (by omega) (by omega))) rfl ?_
      refine WZ.take 3 rfl (by kernel_rfl) (fun w hw => hw) (.mv (.r rfl)) rfl ?_
      refine WZ.take 4 rfl (by kernel_rfl) (fun w hw => hw) (.mv (.r rfl)) rfl ?_
      refine WZ.take 5 rfl (by kernel_rfl) (fun w hw => hw) (.bin (.r rfl) (.r rfl) (pb_dec (by omega) (by omega))) rfl ?_
      refine WZ.take 6 rfl (by kernel_rfl) (fun w hw => hw) (.ixR (k := l.length - 1) (cs := l.flatMap cPart) sli_22 (.r rfl) (.r rfl) (by omega) (fun w hw => hw.pull 1 (.s .z))) rfl ?_
      refine WZ.take 7 rfl (by kernel_rfl) (fun w hw => hw) (.fa fld_36_0 (.r rfl)) rfl ?_
      refine WZ.take 8 rfl (by kernel_rfl) (fun w hw => hw) (.ld (v := .int .i64 (l.getD (l.length - 1) p0).keep) one_3 (.r rfl) (fun w hw => Sat.rowAt (xs := l) (z := p0) (enc := cPart) (fun _ => rfl) (hw.pull 1 (.s .z)) (show l.length - 1 < l.length by omega) 0 _ rfl)) rfl ?_
      refine WZ.take 9 rfl (by kernel_rfl) (fun w hw => hw) (.faL fld_36_0 (.r rfl) rfl) rfl ?_
      refine WZ.take 10 rfl (by kernel_rfl) (fun w hw => hw) (.ldB (k := 0) one_3 (.r rfl) rfl rfl) rfl ?_
      refine WZ.take 11 rfl (by kernel_rfl) (fun w hw => hw) (.bin (.r rfl) (.r rfl) rfl) rfl ?_
      refine WZ.take 12 rfl (by kernel_rfl) (fun w hw => hw) (.mv (.r rfl)) rfl ?_
      refine WZ.take 13 rfl (by kernel_rfl) (fun w hw => hw) (.mv (.r rfl)) rfl ?_
      refine WZ.take 14 rfl (by kernel_rfl) (fun w hw => hw) (.bin (.r rfl) (.r rfl) (pb_dec (by omega) (by omega))) rfl ?_
      refine WZ.take 15 rfl (by kernel_rfl) (fun w hw => hw) (.ixR (k := l.length - 1) (cs := l.flatMap cPart) sli_22 (.r rfl) (.r rfl) (by omega) (fun w hw => hw.pull 1 (.s .z))) rfl ?_
      refine WZ.take 16 rfl (by kernel_rfl) (fun w hw => hw) (.fa fld_36_1 (.r rfl)) rfl ?_
      refine WZ.take 17 rfl (by kernel_rfl) (fun w hw => hw) (.ld (v := .int .i64 (l.getD (l.length - 1) p0).drop) one_3 (.r rfl) (fun w hw => Sat.rowAt (xs := l) (z := p0) (enc := cPart) (fun _ => rfl) (hw.pull 1 (.s .z)) (show l.length - 1 < l.length by omega) 1 _ rfl)) rfl ?_
      refine WZ.take 18 rfl (by kernel_rfl) (fun w hw => hw) (.faL fld_36_1 (.r rfl) rfl) rfl ?_
      refine WZ.take 19 rfl (by kernel_rfl) (fun w hw => hw) (.ldB (k := 0) one_3 (.r rfl) rfl rfl) rfl ?_
      refine WZ.take 20 rfl (by kernel_rfl) (fun w hw => hw) (.bin (.r rfl) (.r rfl) rfl) rfl ?_
      refine WZ.take 21 rfl (by kernel_rfl) (fun w hw => hw) (.mv (.r rfl)) rfl ?_
      refine WZ.take 22 rfl (by kernel_rfl) (fun w hw => hw) (.mv (.r rfl)) rfl ?_
      refine WZ.take 23 rfl (by kernel_rfl) (fun w hw => hw) (.bin (.r rfl) (.r rfl) (pb_dec (by omega) (by omega))) rfl ?_
      refine WZ.take 24 rfl (by kernel_rfl) (fun w hw => hw) (.ixR (k := l.length - 1) (cs := l.flatMap cPart) sli_22 (.r rfl) (.r rfl) (by omega) (fun w hw => hw.pull 1 (.s .z))) rfl ?_
      refine WZ.take 25 rfl (by kernel_rfl) (fun w hw => hw) (.fa fld_36_2 (.r rfl)) rfl ?_
      refine WZ.take 26 rfl (by kernel_rfl) (fun w hw => hw) (.ld (v := str (l.getD (l.length - 1) p0).put) one_9 (.r rfl) (fun w hw => Sat.rowAt (xs := l) (z := p0) (enc := cPart) (fun _ => rfl) (hw.pull 1 (.s .z)) (show l.length - 1 < l.length by omega) 2 _ rfl)) rfl ?_
      refine WZ.take 27 rfl (by kernel_rfl) (fun w hw => hw) (.faL fld_36_2 (.r rfl) rfl) rfl ?_
      refine WZ.take 28 rfl (by kernel_rfl) (fun w hw => hw) (.ldB (k := 0) one_9 (.r rfl) rfl rfl) rfl ?_
      refine WZ.take 29 rfl (by kernel_rfl) (fun w hw => hw) (.addS (.r rfl) (.r rfl) (by have := hq _ (getD_mem (show l.length - 1 < l.length by omega)); omega)) rfl ?_
      refine WZ.take 30 rfl (by kernel_rfl) (fun w hw => hw) (.bld (c := cPart (mergeP (l.getD (l.length - 1) p0) p)) (vs := [(0, .int .i64 (mergeP (l.getD (l.length - 1) p0) p).keep), (1, .int .i64 (mergeP (l.getD (l.length - 1) p0) p).drop), (2, str (mergeP (l.getD (l.length - 1) p0) p).put)]) bldPart rfl rfl) rfl ?_
      refine WZ.take 31 rfl (by kernel_rfl) (fun w hw => hw) (.ixR (k := l.length - 1) (cs := l.flatMap cPart) sli_22 (.r rfl) (.r rfl) (by omega) (fun w hw => hw.pull 1 (.s .z))) rfl ?_
      refine WZ.one 32 rfl (by kernel_rfl) ?_
      refine WO.pull 1 (.s .z) ?_
      refine WO.stE (i := l.length - 1) (cs := cPart (mergeP (l.getD (l.length - 1) p0) p)) sliPart_sz rfl rfl rfl rfl (rPart.one (H := fun _ => .none) (x := mergeP (l.getD (l.length - 1) p0) p) rfl) (by omega) ?_
      rw [flatMap_set (enc := cPart) (fun _ => rfl) l (l.length - 1) (mergeP (l.getD (l.length - 1) p0) p) (by omega)]
      refine WO.nil (KQ.zone (.inl rfl) ?_)
      refine WZ.nil (by kernel_rfl) ?_
      refine KQ.seq ?_
      refine WC.seq ?_
      refine WC.region ?_
      refine WO.val (.mv (.r rfl)) rfl ?_
      refine WO.val (.asg (.r rfl)) rfl ?_
      refine WO.nil ?_
      refine KQ.seq ?_
      refine WC.ret ?_
      exact KQ.thenR (KQ.fin rfl (.tmp rfl .nil) (fun w hw => ⟨_, rfl, by rw [addP_j c1 c2, List.length_set]; exact (hw.pull 1 (.s .z)).drop⟩))
    · have c2 : joinsP l p = false := c2
      refine WC.skip ?_
      refine KQ.seq ?_
      refine WC.seq ?_
      refine WC.region ?_
      refine WO.val (.mv (.r rfl)) rfl ?_
      refine WO.val (.ldW (k := 0) str_36 (.r rfl) rfl rfl) rfl ?_
      refine WO.bs (vs := [.agg (cPart p).toArray]) (c := (cPart p)) sli_22 rfl rfl rfl (by omega) (by intro v hv; obtain rfl := List.mem_singleton.1 hv; rfl) rfl (by omega) fun g9 => ?_
      refine WO.pull 2 (.s (.s .z)) ?_
      refine WO.app (k := 1) (c := 1) (news := (cPart p)) sli_22 rfl rfl rfl rfl (fun w hw => has_blk (hw.blkAt (k := 1) rfl) rfl) (rPart.one (H := fun _ => .none) (x := p) rfl) (by rw [maxLen_eq]; omega) (by omega) fun u => ?_
      refine WO.val (.asg (.r rfl)) rfl ?_
      refine WO.nil ?_
      refine KQ.seq ?_
      refine WC.ret ?_
      exact KQ.fin rfl (.tmp rfl .nil) (fun w hw => ⟨_, rfl, by have h9 := ((hw.pull 1 (.s .z)).drop.pull 1 (.s .z)).drop; rw [addP_n c1 c2]; simpa [tupV] using h9⟩)
end Go.Proofs.YtfnaplhjkapghaaDoor
