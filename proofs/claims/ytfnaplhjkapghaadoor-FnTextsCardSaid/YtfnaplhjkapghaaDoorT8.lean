/- A part of the proofs of this seat: contracts of the functions that its statements reach. -/
import Derived.Test.YtfnaplhjkapghaaDoorShelf
import Derived.Test.YtfnaplhjkapghaaDoorT7
import Derived.Test.YtfnaplhjkapghaaDoorProg
set_option linter.unusedVariables false
set_option linter.unusedSimpArgs false
set_option maxRecDepth 4000
namespace Go.Proofs.YtfnaplhjkapghaaDoor
open Go Go.RowKit Go.Proofs.YtfnaplhjkapghaaDoor.Sp
theorem con_84 : Program.concrete Tryd.prog 84 = true := by kernel_rfl
theorem ifc_50 : Ifc Tryd.prog 50 := by unfold Ifc; kernel_rfl
theorem ent_49 : Ent Tryd.prog 49 := ent_of Tryd.prog Tryd.func49 rfl rfl
theorem ent_51 : Ent Tryd.prog 51 := ent_of Tryd.prog Tryd.func51 rfl rfl
theorem ent_65 : Ent Tryd.prog 65 := ent_of Tryd.prog Tryd.func65 rfl rfl
theorem ent_66 : Ent Tryd.prog 66 := ent_of Tryd.prog Tryd.func66 rfl rfl

theorem ifcE : Ifc Tryd.prog 50 := by unfold Ifc; kernel_rfl
theorem eriE : Eri Tryd.prog 81 .i64 := .of (by kernel_rfl) (by kernel_rfl)
structure GL (w : World) : Prop where
  m : ∃ m, w.cell? ⟨0, 0, none⟩ = some (.int .i64 m)
  syn : ∃ ev, w.cell? ⟨1, 0, none⟩ = some ev ∧ (ev = .nilIface ∨ ∃ te pe, ev = .iface te pe)
  rng : ∃ ev, w.cell? ⟨2, 0, none⟩ = some ev ∧ (ev = .nilIface ∨ ∃ te pe, ev = .iface te pe)
  tab : Lib.TabIs Tryd.prog w "internal/strconv.uint64pow10" .u64 Lib.pow10Tab
theorem GL.mono {w0 w : World} {Γ : List Asn} (h : GL w0) (hw : Sat (envOf w0) w Γ) : GL w := by
  obtain ⟨⟨m, h1⟩, ⟨e1, h2, h2'⟩, ⟨e2, h3, h3'⟩, h4⟩ := h
  refine ⟨⟨m, hw.cell h1⟩, ⟨e1, hw.cell h2, h2'⟩, ⟨e2, hw.cell h3, h3'⟩, ?_⟩
  unfold Lib.TabIs World.var? at h4 ⊢
  cases hg : Program.globalNamed Tryd.prog "internal/strconv.uint64pow10" with
  | none => rw [hg] at h4; cases h4
  | some g =>
    rw [hg] at h4
    simp only [Option.bind_some] at h4 ⊢
    cases ho : w0.heap[g]? with
    | none => rw [ho] at h4; cases h4
    | some o => rw [ho] at h4; have h5 : w.heap[g]? = some o := hw.old g o ho; rw [h5]; exact h4
theorem synE (fn s : List UInt8) (hs : s.length ≤ 281474976710656) (w : World) (hg : GL w) : CP Tryd.prog 65 [str fn, str s] w (fun n : Nat => .pointer (some ⟨n, 0, none⟩)) (fun _ => []) := by
  obtain ⟨ev, h1, h2⟩ := hg.syn
  exact (Tryd.strconv_syntaxError ⟨fn.toArray⟩ ⟨s.toArray⟩ ev w hs h1 h2).mono fun e w' ⟨n, he, _, _, hb⟩ => ⟨n, he, sat_below hb⟩
theorem rngE (fn s : List UInt8) (hs : s.length ≤ 281474976710656) (w : World) (hg : GL w) : CP Tryd.prog 66 [str fn, str s] w (fun n : Nat => .pointer (some ⟨n, 0, none⟩)) (fun _ => []) := by
  obtain ⟨ev, h1, h2⟩ := hg.rng
  exact (Tryd.strconv_rangeError ⟨fn.toArray⟩ ⟨s.toArray⟩ ev w hs h1 h2).mono fun e w' ⟨n, he, _, _, hb⟩ => ⟨n, he, sat_below hb⟩
theorem pu16n (s : List UInt8) (hs : s.length = 2) (w : World) (ho : hexS s 0 = none) : CV Tryd.prog 51 [str s, .int .i64 16, .int .i64 8] w (.tuple #[.int .u64 0, .iface 81 (.int .i64 2)]) := by
  have := pu16 s hs w; rw [ho] at this; exact this
theorem pu16s (s : List UInt8) (hs : s.length = 2) (w : World) (n : Int) (ho : hexS s 0 = some n) : CV Tryd.prog 51 [str s, .int .i64 16, .int .i64 8] w (.tuple #[.int .u64 n, .nilIface]) := by
  have := pu16 s hs w; rw [ho] at this; exact this

/-! strconv.toError -/
theorem toErr (fn s : List UInt8) (b1 b2 c : Int) (hc : c = 1 ∨ c = 2) (hs : s.length ≤ 281474976710656) (w : World) (hg : GL w) : CP Tryd.prog 49 [str fn, str s, .int .i64 b1, .int .i64 b2, .iface 81 (.int .i64 c)] w (fun n : Nat => .iface 84 (.pointer (some ⟨n, 0, none⟩))) (fun _ => []) := by
  refine enter Tryd.func49 rfl rfl rfl (Sat.start w) ?_
  simp only [mkL]
  refine WC.seq ?_
  refine WC.region ?_
  refine WO.val (.asg (.r rfl)) rfl ?_
  refine WO.nil ?_
  refine KQ.seq ?_
  refine WC.seq ?_
  refine WC.seq ?_
  refine WC.region ?_
  refine WO.val (.mv (.r rfl)) rfl ?_
  refine WO.nil ?_
  refine KQ.seq ?_
  refine WC.block ?_
  refine WC.seq ?_
  refine WC.region ?_
  refine WO.val (.mki con_81 (.r rfl)) rfl ?_
  refine WO.val (.eqE ifcE eriE (.r rfl) (.r rfl)) rfl ?_
  refine WO.val (.asg (.r rfl)) rfl ?_
  refine WO.nil ?_
  refine KQ.seq ?_
  refine WC.cond rfl (fun c1 => ?_) (fun c1 => ?_)
  · refine WC.seq ?_
    refine WC.region ?_
    refine WO.val (.mv (.r rfl)) rfl ?_
    refine WO.val (.mv (.r rfl)) rfl ?_
    refine WO.callP rfl ent_65 rfl (fun w hw => synE fn s hs w (hg.mono hw)) fun n => ?_
    refine WO.val (.mki con_84 (.r rfl)) rfl ?_
    refine WO.val (.asg (.r rfl)) rfl ?_
    refine WO.nil ?_
    refine KQ.seq ?_
    refine WC.ret ?_
    exact KQ.blockR (KQ.thenR (KQ.fin rfl (.tmp rfl .nil) (fun w hw => ⟨n, rfl, hw⟩)))
  · refine WC.seq ?_
    refine WC.region ?_
    refine WO.val (.mki con_81 (.r rfl)) rfl ?_
    refine WO.val (.eqE ifcE eriE (.r rfl) (.r rfl)) rfl ?_
    refine WO.val (.asg (.r rfl)) rfl ?_
    refine WO.nil ?_
    refine KQ.seq ?_
    refine WC.cond rfl (fun c2 => ?_) (fun c2 => ?_)
    · refine WC.seq ?_
      refine WC.region ?_
      refine WO.val (.mv (.r rfl)) rfl ?_
      refine WO.val (.mv (.r rfl)) rfl ?_
      refine WO.callP rfl ent_66 rfl (fun w hw => rngE fn s hs w (hg.mono hw)) fun n => ?_
      refine WO.val (.mki con_84 (.r rfl)) rfl ?_
      refine WO.val (.asg (.r rfl)) rfl ?_
      refine WO.nil ?_
      refine KQ.seq ?_
      refine WC.ret ?_
      exact KQ.blockR (KQ.thenR (KQ.fin rfl (.tmp rfl .nil) (fun w hw => ⟨n, rfl, hw⟩)))
    · exact absurd c2 (by simp at c1 ⊢; omega)
/-! strconv.ParseUint -/
theorem pubN (s : List UInt8) (hs : s.length = 2) (w : World) (hg : GL w) (ho : hexS s 0 = none) : CP Tryd.prog 33 [str s, .int .i64 16, .int .i64 8] w (fun n : Nat => .tuple #[.int .u64 0, .iface 84 (.pointer (some ⟨n, 0, none⟩))]) (fun _ => []) := by
  refine enter Tryd.func33 rfl rfl rfl (Sat.start w) ?_
  simp only [mkL]
  refine WC.seq ?_
  refine WC.region ?_
  refine WO.val (.asg (.r rfl)) rfl ?_
  refine WO.val (.asg (.r rfl)) rfl ?_
  refine WO.nil ?_
  refine KQ.seq ?_
  refine WC.seq ?_
  refine WC.region ?_
  refine WO.val (.mv (.r rfl)) rfl ?_
  refine WO.val (.mv (.r rfl)) rfl ?_
  refine WO.val (.mv (.r rfl)) rfl ?_
  refine WO.callS rfl ent_51 rfl (fun w hw => pu16n s hs w ho) ?_
  refine WO.val (.mv (.r rfl)) rfl ?_
  refine WO.val (.ext (.r rfl) rfl) rfl ?_
  refine WO.val (.ext (.r rfl) rfl) rfl ?_
  refine WO.val (.asg (.r rfl)) rfl ?_
  refine WO.val (.asg (.r rfl)) rfl ?_
  refine WO.nil ?_
  refine KQ.seq ?_
  refine WC.seq ?_
  refine WC.seq ?_
  refine WC.region ?_
  refine WO.val (.mv (.r rfl)) rfl ?_
  refine WO.val (.neN ifc_50 (.r rfl) (.inr ⟨_, _, rfl⟩)) rfl ?_
  refine WO.nil ?_
  refine KQ.seq ?_
  refine WC.cond rfl (fun c1 => ?_) (fun c1 => ?_)
  · refine WC.seq ?_
    refine WC.region ?_
    refine WO.val (.mv (.r rfl)) rfl ?_
    refine WO.val (.mv (.r rfl)) rfl ?_
    refine WO.val (.mv (.r rfl)) rfl ?_
    refine WO.val (.mv (.r rfl)) rfl ?_
    refine WO.val (.mv (.r rfl)) rfl ?_
    refine WO.callP rfl ent_49 rfl (fun w hw => toErr _ s 16 8 2 (.inr rfl) (by omega) w (hg.mono hw)) fun n => ?_
    refine WO.val (.asg (.r rfl)) rfl ?_
    refine WO.val (.asg (.r rfl)) rfl ?_
    refine WO.nil ?_
    refine KQ.seq ?_
    refine WC.ret ?_
    exact KQ.thenR (KQ.fin rfl (.tmp rfl (.tmp rfl .nil)) (fun w hw => ⟨n, rfl, hw⟩))
  · exact absurd c1 (by simp [isNil])
/-! strconv.ParseUint -/
theorem pubS (s : List UInt8) (hs : s.length = 2) (w : World) (n : Int) (ho : hexS s 0 = some n) : CV Tryd.prog 33 [str s, .int .i64 16, .int .i64 8] w (.tuple #[.int .u64 n, .nilIface]) := by
  refine CV.of ?_
  refine enter Tryd.func33 rfl rfl rfl (Sat.start w) ?_
  simp only [mkL]
  refine WC.seq ?_
  refine WC.region ?_
  refine WO.val (.asg (.r rfl)) rfl ?_
  refine WO.val (.asg (.r rfl)) rfl ?_
  refine WO.nil ?_
  refine KQ.seq ?_
  refine WC.seq ?_
  refine WC.region ?_
  refine WO.val (.mv (.r rfl)) rfl ?_
  refine WO.val (.mv (.r rfl)) rfl ?_
  refine WO.val (.mv (.r rfl)) rfl ?_
  refine WO.callS rfl ent_51 rfl (fun w hw => pu16s s hs w n ho) ?_
  refine WO.val (.mv (.r rfl)) rfl ?_
  refine WO.val (.ext (.r rfl) rfl) rfl ?_
  refine WO.val (.ext (.r rfl) rfl) rfl ?_
  refine WO.val (.asg (.r rfl)) rfl ?_
  refine WO.val (.asg (.r rfl)) rfl ?_
  refine WO.nil ?_
  refine KQ.seq ?_
  refine WC.seq ?_
  refine WC.seq ?_
  refine WC.region ?_
  refine WO.val (.mv (.r rfl)) rfl ?_
  refine WO.val (.neN ifc_50 (.r rfl) (.inl rfl)) rfl ?_
  refine WO.nil ?_
  refine KQ.seq ?_
  refine WC.cond rfl (fun c1 => ?_) (fun c1 => ?_)
  · exact absurd c1 (by simp [isNil])
  · refine WC.skip ?_
    refine KQ.seq ?_
    refine WC.seq ?_
    refine WC.region ?_
    refine WO.val (.mv (.r rfl)) rfl ?_
    refine WO.val (.asg (.r rfl)) rfl ?_
    refine WO.val (.asg (.r rfl)) rfl ?_
    refine WO.nil ?_
    refine KQ.seq ?_
    refine WC.ret ?_
    exact KQ.fin rfl (.tmp rfl (.tmp rfl .nil)) (fun w hw => ⟨(), rfl, hw⟩)
end Go.Proofs.YtfnaplhjkapghaaDoor
