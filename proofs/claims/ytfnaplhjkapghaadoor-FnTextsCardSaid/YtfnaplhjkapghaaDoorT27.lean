/- A part of the proofs of this seat: contracts of the functions that its statements reach. -/
import Derived.Test.YtfnaplhjkapghaaDoorT26
import Derived.Test.YtfnaplhjkapghaaDoorProg
set_option linter.unusedVariables false
set_option linter.unusedSimpArgs false
set_option maxRecDepth 4000
namespace Go.Proofs.YtfnaplhjkapghaaDoor
open Go Go.RowKit Go.Proofs.YtfnaplhjkapghaaDoor.Sp
theorem ent_24 : Ent Tryd.prog 24 := ent_of Tryd.prog Tryd.func24 rfl rfl
theorem ent_40 : Ent Tryd.prog 40 := ent_of Tryd.prog Tryd.func40 rfl rfl
theorem ent_41 : Ent Tryd.prog 41 := ent_of Tryd.prog Tryd.func41 rfl rfl
/-! spec.DrawGoodChange -/
theorem drawGood (l : List UInt8) (A : Option Addr) (c : Nat) (w : World) (hr : RdL (hp w) rB A l) : CP Tryd.prog 24 [.slice A l.length c] w (fun q : Value × List Part => q.1) (fun q => [.pu (q.2.length ≤ 1000 ∧ putsLe 2000 q.2), Row 36 3 q.1 q.2.length (q.2.flatMap cPart)]) := by
  refine enter Tryd.func24 rfl rfl rfl (Sat.start w) ?_
  simp only [mkL]
  refine WC.seq ?_
  refine WC.region ?_
  refine WO.val (.asg (.r rfl)) rfl ?_
  refine WO.nil ?_
  refine KQ.seq ?_
  refine WC.seq ?_
  refine WC.region ?_
  refine WO.val (.mv (.r rfl)) rfl ?_
  refine WO.val (.bld (c := [.slice A l.length c, .int .i64 0, .int .u64 0]) (vs := [(0, .slice A l.length c)]) (bldCur none 0 0) rfl rfl) rfl ?_
  refine WO.bx rfl rfl rfl fun g => ?_
  refine WO.head (Cur g A l.length c 0) (fun w hw => Sat.curI (k := 0) (Nat.zero_le _) hw) ?_
  refine WO.val (.asg (.r rfl)) rfl ?_
  refine WO.nil ?_
  refine KQ.seq ?_
  refine WC.seq ?_
  refine WC.seq ?_
  refine WC.region ?_
  refine WO.val (.mv (.r rfl)) rfl ?_
  refine WO.draw 0 .z rfl ent_37 rfl (oneD 4 (by decide)) hr (by omega) fun x10 h10 => ?_
  refine WO.nil ?_
  refine KQ.seq ?_
  refine WC.cond rfl (fun c1 => ?_) (fun c1 => ?_)
  · refine WC.seq ?_
    refine WC.region ?_
    refine WO.val (.asg (.r rfl)) rfl ?_
    refine WO.nil ?_
    refine KQ.seq ?_
    refine WC.seq ?_
    refine WC.seq ?_
    refine WC.region ?_
    refine WO.val (.mv (.r rfl)) rfl ?_
    refine WO.draw 0 .z rfl ent_38 rfl (pickD 5 (by decide)) hr (by omega) fun x12 h12 => ?_
    refine WO.val (.asg (.r rfl)) rfl ?_
    refine WO.nil ?_
    refine KQ.seq ?_
    refine WC.block ?_
    refine WC.loop (σ := {p : Nat × List Part × Value // p.1 ≤ 5 ∧ p.2.1.length + p.1 ≤ 5 ∧ putsLe 121 p.2.1}) (fun q => [(3, .pointer (some ⟨g, 0, none⟩)), (4, q.1.2.2), (5, .int .i64 (q.1.1 : Nat))]) (fun q => [Cur g A l.length c (4 + 20 * (5 - q.1.1)), Row 36 3 q.1.2.2 q.1.2.1.length (q.1.2.1.flatMap cPart)]) (fun q => q.1.1) (⟨(x12.toNat, [], .slice none 0 0), by unfold pickOk at h12; simp [putsLe]; omega⟩) (by exact ⟨rfl, rfl, slotI (by unfold pickOk at h12; dsimp only; omega), trivial⟩) (fun w hw => ((Sat.rowN (T := 36) (n := 3) hw).pull2).curM (by omega)) ?_
    rintro ⟨⟨m, ps, v⟩, hm, hlen, hpu⟩
    dsimp only at hm hlen hpu
    dsimp only
    refine WC.seq ?_
    refine WC.seq ?_
    refine WC.region ?_
    refine WO.val (.mv (.r rfl)) rfl ?_
    refine WO.val (.bin (.r rfl) (.r rfl) rfl) rfl ?_
    refine WO.nil ?_
    refine KQ.seq ?_
    refine WC.cond rfl (fun c2 => ?_) (fun c2 => ?_)
    · have hm0 : 0 < m := by have := of_decide_eq_true c2; omega
      refine WC.skip ?_
      refine KQ.seq ?_
      refine WC.seq ?_
      refine WC.block ?_
      refine WC.region ?_
      refine WO.val (.mv (.r rfl)) rfl ?_
      refine WO.val (.mv (.r rfl)) rfl ?_
      refine WO.draw 0 .z rfl ent_39 rfl partD hr (by omega) fun x19 h19 => ?_
      refine WO.bs (vs := [.agg (cPart x19).toArray]) (c := (cPart x19)) sli_22 rfl rfl rfl (by omega) (by intro v hv; obtain rfl := List.mem_singleton.1 hv; rfl) rfl (by omega) fun g9 => ?_
      refine WO.pull 2 (.s (.s .z)) ?_
      refine WO.app (k := 1) (c := 1) (news := (cPart x19)) sli_22 rfl rfl rfl rfl (fun w hw => has_blk (hw.blkAt (k := 1) rfl) rfl) (rPart.one (H := fun _ => .none) (x := x19) rfl) (by rw [maxLen_eq]; omega) (by omega) fun u9 => ?_
      refine WO.val (.asg (.r rfl)) rfl ?_
      refine WO.nil ?_
      refine KQ.blockN (KQ.seq ?_)
      refine WC.region ?_
      refine WO.val (.mv (.r rfl)) rfl ?_
      refine WO.val (.bin (.r rfl) (.r rfl) (pb_sub (by omega) (by omega))) rfl ?_
      refine WO.val (.asg (.r rfl)) rfl ?_
      refine WO.nil ?_
      refine KQ.again (⟨(m - 1, ps ++ [x19], u9), by dsimp only; omega, by simp; omega, fun p hp => by rcases List.mem_append.1 hp with hp | hp; exact hpu p hp; rw [List.mem_singleton.1 hp]; omega⟩) (by dsimp only; omega) (by exact ⟨rfl, rfl, slotI (by dsimp only; omega), trivial⟩) (fun w hw => by have h9 := (((hw.pull 1 (.s .z)).drop.pull 1 (.s .z))).curM (show 4 + 20 * (5 - m) + 20 ≤ 4 + 20 * (5 - (m - 1)) by omega); simpa using h9)
    · refine WC.exit ?_
      refine KQ.thenX (KQ.thenX (KQ.blockX (KQ.seq ?_)))
      refine WC.seq ?_
      refine WC.region ?_
      refine WO.val (.mv (.r rfl)) rfl ?_
      refine WO.val (.asg (.r rfl)) rfl ?_
      refine WO.nil ?_
      refine KQ.seq ?_
      refine WC.ret ?_
      exact KQ.thenR (KQ.fin rfl (.tmp rfl .nil) (fun w hw => ⟨(v, ps), rfl, Sat.pureI ⟨by dsimp only; omega, putsLe_mono (by omega) hpu⟩ ((hw).drop).first⟩))
  · refine WC.skip ?_
    refine KQ.seq ?_
    refine WC.seq ?_
    refine WC.region ?_
    refine WO.val (.mv (.r rfl)) rfl ?_
    refine WO.val (.mv (.r rfl)) rfl ?_
    refine WO.draw 0 .z rfl ent_41 rfl sizeD hr (by omega) fun x25 h25 => ?_
    obtain ⟨n, rfl⟩ : ∃ n : Nat, x25 = (n : Int) := ⟨x25.toNat, by omega⟩
    refine WO.call rfl ent_40 rfl (chgOfC hr n (by omega) (by omega)) fun q9 => ?_
    refine WO.fact (fun w hw => (Sat.pure1 hw).1) fun h9 => ?_
    refine WO.drop ?_
    refine WO.val (.asg (.r rfl)) rfl ?_
    refine WO.nil ?_
    refine KQ.seq ?_
    refine WC.ret ?_
    exact KQ.fin rfl (.tmp rfl .nil) (fun w hw => ⟨q9, rfl, Sat.pureI h9 hw.first⟩)
/-! spec.DrawChangeText -/
theorem drawText (l : List UInt8) (A : Option Addr) (c : Nat) (w : World) (hr : RdL (hp w) rB A l) : CP Tryd.prog 10 [.slice A l.length c] w (fun q : Value × List Part => q.1) (fun q => [.pu (q.2.length ≤ 1000 ∧ putsLe 2000 q.2), Row 36 3 q.1 q.2.length (q.2.flatMap cPart)]) := by
  refine enter Tryd.func10 rfl rfl rfl (Sat.start w) ?_
  simp only [mkL]
  refine WC.seq ?_
  refine WC.region ?_
  refine WO.val (.asg (.r rfl)) rfl ?_
  refine WO.nil ?_
  refine KQ.seq ?_
  refine WC.seq ?_
  refine WC.region ?_
  refine WO.val (.mv (.r rfl)) rfl ?_
  refine WO.callP rfl ent_24 rfl (fun w hw => drawGood l A c w (hr.mono hw.old)) fun q9 => ?_
  refine WO.val (.asg (.r rfl)) rfl ?_
  refine WO.nil ?_
  refine KQ.seq ?_
  refine WC.ret ?_
  exact KQ.fin rfl (.tmp rfl .nil) (fun w hw => ⟨q9, rfl, hw⟩)
end Go.Proofs.YtfnaplhjkapghaaDoor
