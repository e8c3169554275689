/- Regions that draw their order and change the memory: what only reads is taken first, the rest in each order. -/
import Derived.Test.YtfnaplhjkapghaaDoorJn
set_option linter.unusedVariables false
set_option linter.unusedSimpArgs false
namespace Go.Proofs.YtfnaplhjkapghaaDoor.Sp
open Go Go.RowKit
variable {P : Program} {N : Nat} {E : Env} {l0 : List Oper} {rest : List Oper} {L : Slots} {Γ : List Asn} {Q : Exit → Act → World → Prop}
variable {d : Nat} {ty : TypeId} {pos : String} {af : Array Edge} {v : Value}
def nQ (K : Act → World → Prop) : Exit → Act → World → Prop
  | .normal, a, w => K a w
  | _, _, _ => False
def wpZ (P : Program) (ops : Array Oper) (Q : Exit → Act → World → Prop) (T : World → Prop) (z : Nat) : Nat → Array Bool → Act → World → Prop
  | 0, listed, a, w => Region.ready .any ops listed = [] ∧ Q .normal a w
  | fuel + 1, listed, a, w => (Region.ready .any ops listed = [] → Q .normal a w) ∧
    ∀ i ∈ Region.ready .any ops listed, wpOp P ops Q i (fun a' w' => (i = z ∨ T w') ∧ wpZ P ops Q T z fuel (listed.setIfInBounds i true) a' w') a w
section
variable {ops : Array Oper} {T : World → Prop} {z : Nat}
theorem wpAny_of_Z : ∀ (fuel : Nat) (listed : Array Bool) (a : Act) (w : World), wpZ P ops Q T z fuel listed a w → wpAny P .any ops Q fuel listed a w
  | 0, _, _, _, h => h
  | fuel + 1, _, _, _, h => ⟨h.1, fun i hi => wpOp_mono (fun a' w' h' => wpAny_of_Z fuel _ a' w' h'.2) (h.2 i hi)⟩
theorem wpZ_first {i : Nat} {oi : Oper} {v : Value} (hi : ops[i]? = some oi) (hsel : ∀ (j : Nat) (o : Oper) cs b, ops[j]? = some o → o.op ≠ .select cs b)
    (hQ : ∀ c a w, Q (.panic c) (a.put oi.dst v) w → Q (.panic c) a w) (hz : ∀ oz, ops[z]? = some oz → ∃ e ∈ oz.after, Region.binds .any e = true ∧ e.on = i) :
    ∀ (fuel : Nat) (listed : Array Bool) (a : Act) (w : World),
      (∀ j oj, ops[j]? = some oj → j ≠ i → listed.getD j true = false → (∀ e ∈ oj.after, Region.binds .any e = true → e.on ≠ i) → oi.apart ops oj = true) →
      i ∈ Region.ready .any ops listed → YieldsIf P ops T oi v a → T w →
      wpZ P ops Q T z fuel (listed.setIfInBounds i true) (a.put oi.dst v) w → wpZ P ops Q T z (fuel + 1) listed a w := by
  intro fuel
  induction fuel with
  | zero =>
    intro listed a w _ hr hy hS H
    refine ⟨fun h => (by rw [h] at hr; cases hr), fun j hj => ?_⟩
    by_cases hji : j = i
    · subst hji; exact hy.wpOp hi hS ⟨.inr hS, H⟩
    · have := ready_mono hj hji
      rw [H.1] at this
      cases this
  | succ fuel ih =>
    intro listed a w hfree hr hy hS H
    refine ⟨fun h => (by rw [h] at hr; cases hr), fun j hj => ?_⟩
    by_cases hji : j = i
    · subst hji; exact hy.wpOp hi hS ⟨.inr hS, H⟩
    · have h1 := H.2 j (ready_mono hj hji)
      obtain ⟨hjun, oj, hoj, hall⟩ := mem_ready.1 hj
      have hnot : ∀ e ∈ oj.after, Region.binds .any e = true → e.on ≠ i := fun e he hb heq => by
        have h1 := hall e he hb
        have h0 := (mem_ready.1 hr).1
        rw [heq] at h1
        rcases Nat.lt_or_ge i listed.size with h' | h'
        · simp [h'] at h0 h1; rw [h0] at h1; cases h1
        · simp [Array.getElem?_eq_none h'] at h1
      have hjz : j ≠ z := fun e => by
        subst e
        obtain ⟨e, he, hb, ho⟩ := hz oj hoj
        exact hnot e he hb ho
      have h2 := wpOp_putIf hoj (hfree j oj hoj hji hjun hnot) (fun cs b => hsel i oi cs b hi) (fun cs b => hsel j oj cs b hoj) hQ hy h1
      have hfree' : ∀ k ok, ops[k]? = some ok → k ≠ i → (listed.setIfInBounds j true).getD k true = false →
          (∀ e ∈ ok.after, Region.binds .any e = true → e.on ≠ i) → oi.apart ops ok = true := fun k ok hk hki hun hno => by
        refine hfree k ok hk hki ?_ hno
        by_cases hjk : j = k
        · subst hjk; exact hjun
        · rw [getD_set_ne true hjk] at hun; exact hun
      refine wpOp_mono (fun a' w' h3 => ?_) h2
      have hT : T w' := h3.2.1.resolve_left hjz
      refine ⟨.inr hT, ih (listed.setIfInBounds j true) a' w' hfree' (ready_mono hr (Ne.symm hji)) h3.1 hT ?_⟩
      rw [Array.setIfInBounds_comm _ _ hji]
      exact h3.2.2
end
/-- the judgement inside such a region -/
def WZ (P : Program) (N : Nat) (E : Env) (l0 : List Oper) (T : List Asn) (z fuel : Nat) (ls : List Bool) (L : Slots) (Γ : List Asn) (K : Act → World → Prop) : Prop :=
  ∀ a w, Fr N a L → Sat E w Γ → wpZ P l0.toArray (nQ K) (fun w => Sat E w T) z fuel ls.toArray a w
theorem WC.zone {id : Nat} {l : List Oper} (T : List Asn) (z : Nat) (hm : P.follows .mixedOrders = true) (h : WZ P N E l T z l.length (List.replicate l.length false) L Γ (Q .normal)) : WC P N E (.region id l.toArray true) L Γ Q := by
  intro a w hf hs
  have h1 := h a w.drew hf hs.drew
  have h2 : (Code.region id l.toArray true).wp P (nQ (Q .normal)) a w := wp_region_any hm (by
    have := wpAny_of_Z _ _ _ _ h1
    simpa using this)
  refine wp_mono h2 fun e a w q => ?_
  cases e <;> first | exact q | exact q.elim
theorem WC.zoneG {id : Nat} {l : List Oper} (z : Nat) (hm : P.follows .mixedOrders = true) (h : WZ P N E l Γ z l.length (List.replicate l.length false) L Γ (Q .normal)) : WC P N E (.region id l.toArray true) L Γ Q := WC.zone Γ z hm h
theorem WC.zone1 {A : Asn} {id : Nat} {l : List Oper} (z : Nat) (hm : P.follows .mixedOrders = true) (h : WZ P N E l Γ z l.length (List.replicate l.length false) L (A :: Γ) (Q .normal)) : WC P N E (.region id l.toArray true) L (A :: Γ) Q := WC.zone Γ z hm h
def zOk (l0 : List Oper) (z i : Nat) : Bool := match l0[z]? with | none => true | some oz => oz.after.any (fun e => Region.binds .any e && e.on == i)
theorem zOk_spec {z i : Nat} (h : zOk l0 z i = true) : ∀ oz, l0.toArray[z]? = some oz → ∃ e ∈ oz.after, Region.binds .any e = true ∧ e.on = i := fun oz ho => by
  unfold zOk at h
  have ho' : l0[z]? = some oz := by simpa using ho
  rw [ho'] at h
  simp only at h
  obtain ⟨e, he, hb⟩ := Array.any_eq_true'.1 h
  simp only [Bool.and_eq_true, beq_iff_eq] at hb
  exact ⟨e, he, hb.1, hb.2⟩
variable {T : List Asn} {z fuel : Nat} {ls : List Bool} {K : Act → World → Prop}
def chk (l0 : List Oper) (ls : List Bool) (z i : Nat) : Bool := Region.noSelect l0.toArray && (Region.free .any l0.toArray ls.toArray i && ((Region.ready .any l0.toArray ls.toArray).contains i && zOk l0 z i))
theorem WZ.tk {i : Nat} {o : Oper} (hi : l0[i]? = some o) (hc : chk l0 ls z i = true) (hd : ∀ e, o.dst = some e → e < N) (hT : ∀ w, Sat E w Γ → Sat E w T)
    (hy : ∀ a, Fr N a L → YieldsIf P l0.toArray (fun w => Sat E w T) o v a) (k : ∀ a w, Fr N a L → Sat E w Γ → wpZ P l0.toArray (nQ K) (fun w => Sat E w T) z fuel (ls.set i true).toArray (a.put o.dst v) w) : WZ P N E l0 T z (fuel + 1) ls L Γ K := by
  simp only [chk, Bool.and_eq_true] at hc
  obtain ⟨h1, h2, h3, h4⟩ := hc
  intro a w hf hs
  have hi' : l0.toArray[i]? = some o := by simpa using hi
  refine wpZ_first hi' (Region.noSelect_spec h1) (fun _ _ _ h => h.elim) (zOk_spec h4) fuel ls.toArray a w (Region.free_spec hi' h2) (by simpa using h3) (hy a hf) (hT w hs) ?_
  have := k a w hf hs
  rwa [show ls.toArray.setIfInBounds i true = (ls.set i true).toArray by simp]
theorem WZ.take {op : Op} (i : Nat) (hi : l0[i]? = some ⟨some d, op, ty, pos, af, none⟩) (hc : chk l0 ls z i = true) (hT : ∀ w, Sat E w Γ → Sat E w T) (h : Val P N E L T op v) (hd : Nat.ble (d + 1) N = true)
    (k : WZ P N E l0 T z fuel (ls.set i true) ((d, v) :: L) Γ K) : WZ P N E l0 T z (fuel + 1) ls L Γ K :=
  WZ.tk hi hc (fun e he => by cases he; exact Nat.le_of_ble_eq_true hd) hT (fun a hf => .inl ⟨by simp [Region.wanted], fun w hw => h d ty pos af a w hf hw⟩) fun a w hf hs => k _ w (hf.put (Nat.le_of_ble_eq_true hd) v) hs
theorem WZ.takeG {op : Op} {j t : Nat} {b want : Bool} (i : Nat) (hi : l0[i]? = some ⟨some d, op, ty, pos, af, some (j, want)⟩) (hc : chk l0 ls z i = true) (hT : ∀ w, Sat E w Γ → Sat E w T) (hj : ((l0[j]?).bind (·.dst)) = some t) (hv : lk t L = some (.bool b)) (hd : Nat.ble (d + 1) N = true)
    (h : (b == want) = true → Val P N E L T op v) (k : WZ P N E l0 T z fuel (ls.set i true) ((d, gv (b == want) v) :: L) Γ K) : WZ P N E l0 T z (fuel + 1) ls L Γ K := by
  refine WZ.tk (v := gv (b == want) v) hi hc (fun e he => by cases he; exact Nat.le_of_ble_eq_true hd) hT (fun a hf => ?_) fun a w hf hs => k _ w (hf.put (Nat.le_of_ble_eq_true hd) _) hs
  have hy : yielded l0.toArray a.tmps j = some b := by
    unfold yielded
    have : (l0.toArray[j]?).bind (·.dst) = some t := by simpa using hj
    rw [this, Option.bind_some, hf.at_ t _ hv]
  by_cases hb : b = want
  · subst hb
    have e : gv (b == b) v = v := by cases b <;> rfl
    rw [e]
    refine .inl ⟨by simp [Region.wanted, hy], fun w hw => ?_⟩
    have := h (by simp) d ty pos af a w hf hw
    rw [← this]; rfl
  · have e : (b == want) = false := by cases b <;> cases want <;> simp at hb ⊢
    rw [e]
    exact .inr ⟨by simp [Region.wanted, hy]; exact hb, rfl⟩
theorem oper_nQ {o : Oper} {a : Act} {w : World} {K1 K2 K' : Act → World → Prop} (h : o.wp P a w K' (nQ K1)) : o.wp P a w K' (nQ K2) := by
  unfold Oper.wp at *
  generalize (execOp a.eval o).run P w = r at *
  cases r with
  | ok n w' =>
    cases n <;> simp only [Oper.upon] at h ⊢
    case enter f args =>
      refine Calls.mono h fun e w'' he => ?_
      cases e with
      | returned u => exact he
      | panicked c => exact he
      | outgrown => obtain ⟨_, _, hh⟩ := he; exact hh.elim
    all_goals exact h
  | halt x w' => cases x <;> simp only [Oper.upon] at h ⊢ <;> exact h
theorem wpOp_of_list {i : Nat} {o : Oper} (hi : l0[i]? = some o) {K' : Act → World → Prop} {a : Act} {w : World} (h : wpList P l0.toArray (nQ K') [o] a w) : wpOp P l0.toArray (nQ K) i K' a w := by
  have hi' : l0.toArray[i]? = some o := by simpa using hi
  unfold wpOp
  rw [hi']
  unfold wpList at h
  simp only
  split
  · rename_i hw
    rw [if_pos hw] at h
    rcases h with h | ⟨_, _, _, h⟩
    · exact .inl (oper_nQ h)
    · exact h.elim
  · rename_i hw
    rw [if_neg hw] at h
    exact h
def Nz (P : Program) (E : Env) (l0 : List Oper) (T : List Asn) (z fuel : Nat) (ls : List Bool) (K : Act → World → Prop) (i : Nat) (a : Act) (w : World) : Prop :=
  (i = z ∨ Sat E w T) ∧ wpZ P l0.toArray (nQ K) (fun w => Sat E w T) z fuel (ls.set i true).toArray a w
theorem WZ.one {o : Oper} (i : Nat) (hi : l0[i]? = some o) (hr : Region.ready .any l0.toArray ls.toArray = [i]) (h : WO P N E l0.toArray [o] L Γ (nQ (Nz P E l0 T z fuel ls K i))) : WZ P N E l0 T z (fuel + 1) ls L Γ K := by
  intro a w hf hs
  refine ⟨fun h0 => absurd (hr ▸ h0) (by simp), fun j hj => ?_⟩
  rw [hr] at hj
  obtain rfl := List.mem_singleton.1 hj
  have := wpOp_of_list (K := K) hi (h a w hf hs)
  rw [show ls.toArray.setIfInBounds j true = (ls.set j true).toArray by simp]
  exact this
theorem WZ.two {o o' : Oper} (i i' : Nat) (hi : l0[i]? = some o) (hi' : l0[i']? = some o') (hr : Region.ready .any l0.toArray ls.toArray = [i, i']) (h : WO P N E l0.toArray [o] L Γ (nQ (Nz P E l0 T z fuel ls K i)))
    (h' : WO P N E l0.toArray [o'] L Γ (nQ (Nz P E l0 T z fuel ls K i'))) : WZ P N E l0 T z (fuel + 1) ls L Γ K := by
  intro a w hf hs
  refine ⟨fun h0 => absurd (hr ▸ h0) (by simp), fun j hj => ?_⟩
  rw [hr] at hj
  rw [show ls.toArray.setIfInBounds j true = (ls.set j true).toArray by simp]
  rcases List.mem_cons.1 hj with rfl | hj
  · exact wpOp_of_list (K := K) hi (h a w hf hs)
  · obtain rfl := List.mem_singleton.1 hj
    exact wpOp_of_list (K := K) hi' (h' a w hf hs)
theorem KQ.zone {i : Nat} (hc : i = z ∨ ∀ w, Sat E w Γ → Sat E w T) (h : WZ P N E l0 T z fuel (ls.set i true) L Γ K) : KQ N E (nQ (Nz P E l0 T z fuel ls K i)) .normal L Γ :=
  fun a w hf hs => ⟨hc.imp id (fun h => h w hs), h a w hf hs⟩
theorem WZ.nil (hr : Region.ready .any l0.toArray ls.toArray = []) (h : KQ N E Q .normal L Γ) : WZ P N E l0 T z 0 ls L Γ (Q .normal) := fun a w hf hs => ⟨hr, h a w hf hs⟩
end Go.Proofs.YtfnaplhjkapghaaDoor.Sp
