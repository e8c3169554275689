/- A part of the proofs of this seat: contracts of the functions that its statements reach. -/
import Derived.Test.YtfnaplhjkapghaaDoorT17
import Derived.Test.YtfnaplhjkapghaaDoorProg
set_option linter.unusedVariables false
set_option linter.unusedSimpArgs false
set_option maxRecDepth 4000
namespace Go.Proofs.YtfnaplhjkapghaaDoor
open Go Go.RowKit Go.Proofs.YtfnaplhjkapghaaDoor.Sp
theorem ent_5 : Ent Tryd.prog 5 := ent_of Tryd.prog Tryd.func5 rfl rfl
theorem ent_6 : Ent Tryd.prog 6 := ent_of Tryd.prog Tryd.func6 rfl rfl
theorem ent_7 : Ent Tryd.prog 7 := ent_of Tryd.prog Tryd.func7 rfl rfl
theorem ent_8 : Ent Tryd.prog 8 := ent_of Tryd.prog Tryd.func8 rfl rfl
theorem ent_9 : Ent Tryd.prog 9 := ent_of Tryd.prog Tryd.func9 rfl rfl

theorem rdAll_len : ∀ (ws : List (List UInt8)) (ps : List Part), rdAll ws = some ps → ps.length = ws.length
  | [], ps, h => by cases h; rfl
  | w :: ws, ps, h => by
    rw [rdAll] at h
    split at h
    · cases h
    · cases hr : rdAll ws with
      | none => rw [hr] at h; cases h
      | some qs => rw [hr] at h; cases h; simp [rdAll_len ws qs hr]
theorem read_len (s : List UInt8) : ((readT s).getD []).length ≤ s.length + 1 := by
  unfold readT
  split
  · simp
  · cases h : rdAll (splitOn 32 s) with
    | none => simp
    | some ps =>
      dsimp only
      split
      · have := rdAll_len _ _ h; have h2 := splitOn_len 32 s; simp; omega
      · simp
theorem implRead2 (s : List UInt8) (hs : s.length ≤ 1048576) (w : World) (hg : GL w) : CP Tryd.prog 6 [str s] w (fun v : Value => .tuple #[v, .bool (readT s).isSome]) (fun v => [Row 36 3 v ((readT s).getD []).length (((readT s).getD []).flatMap cPart)]) := by
  have := implRead s hs w hg
  rw [read_eq] at this
  exact this

/-! laws.FnExactReadChangeText -/
theorem lawRead (s : List UInt8) (w : World) (hg : GL w) : CV Tryd.prog 3 [str s] w (.bool true) := by
  refine CV.of ?_
  have hlen := read_len s
  refine enter Tryd.func3 rfl rfl rfl (Sat.start w) ?_
  simp only [mkL]
  refine WC.seq ?_
  refine WC.region ?_
  refine WO.val (.asg (.r rfl)) rfl ?_
  refine WO.nil ?_
  refine KQ.seq ?_
  refine WC.seq ?_
  refine WC.seq ?_
  refine WC.region ?_
  refine WO.val (.mv (.r rfl)) rfl ?_
  refine WO.val (.lenT Tryd.underlying9 (.r rfl)) rfl ?_
  refine WO.val (.bin (.r rfl) (.r rfl) rfl) rfl ?_
  refine WO.nil ?_
  refine KQ.seq ?_
  refine WC.cond rfl (fun c1 => ?_) (fun c1 => ?_)
  · refine WC.seq ?_
    refine WC.region ?_
    refine WO.val (.asg (.r rfl)) rfl ?_
    refine WO.nil ?_
    refine KQ.seq ?_
    refine WC.ret ?_
    exact KQ.thenR (KQ.fin rfl (.tmp rfl .nil) (fun w hw => ⟨(), rfl, hw.none⟩))
  · have hs : s.length ≤ 1048576 := by have := of_decide_eq_false c1; omega
    refine WC.skip ?_
    refine KQ.seq ?_
    refine WC.seq ?_
    refine WC.region ?_
    refine WO.val (.mv (.r rfl)) rfl ?_
    refine WO.callP rfl ent_5 rfl (fun w hw => specRead s hs w) fun u1 => ?_
    refine WO.fact (fun w hw => hw.rowAny) fun hv => ?_
    obtain ⟨A1, d1, rfl⟩ := hv
    refine WO.val (.mv (.r rfl)) rfl ?_
    refine WO.val (.ext (.r rfl) rfl) rfl ?_
    refine WO.val (.ext (.r rfl) rfl) rfl ?_
    refine WO.val (.asg (.r rfl)) rfl ?_
    refine WO.val (.asg (.r rfl)) rfl ?_
    refine WO.nil ?_
    refine KQ.seq ?_
    refine WC.seq ?_
    refine WC.region ?_
    refine WO.val (.mv (.r rfl)) rfl ?_
    refine WO.callP rfl ent_6 rfl (fun w hw => implRead2 s hs w (hg.mono hw)) fun u2 => ?_
    refine WO.fact (fun w hw => hw.rowAny) fun hv => ?_
    obtain ⟨A2, d2, rfl⟩ := hv
    refine WO.val (.mv (.r rfl)) rfl ?_
    refine WO.val (.ext (.r rfl) rfl) rfl ?_
    refine WO.val (.ext (.r rfl) rfl) rfl ?_
    refine WO.val (.asg (.r rfl)) rfl ?_
    refine WO.val (.asg (.r rfl)) rfl ?_
    refine WO.nil ?_
    refine KQ.seq ?_
    refine WC.seq ?_
    refine WC.seq ?_
    refine WC.region ?_
    refine WO.val (.mv (.r rfl)) rfl ?_
    refine WO.val (.mv (.r rfl)) rfl ?_
    refine WO.callS rfl ent_7 rfl (fun w hw => eqPartS_calls ((readT s).getD []) ((readT s).getD []) A2 A1 d2 d1 w (Sat.rowLd rPart rfl hw rfl) (Sat.rowLd rPart rfl (hw.pull 1 (.s .z)) rfl) (by rw [maxLen_eq]; omega)) ?_
    refine WO.val (.nt (.r rfl)) rfl ?_
    refine WO.val (.mv (.r rfl)) rfl ?_
    refine WO.gd rfl rfl rfl (fun h => (.mv (.r rfl))) ?_
    refine WO.gd rfl rfl rfl (fun h => (.mv (.r rfl))) ?_
    refine WO.gd rfl rfl rfl (fun h => (.bne Tryd.underlying4 (.g h rfl) (.g h rfl))) ?_
    refine WO.val (.or rfl rfl) rfl ?_
    refine WO.nil ?_
    refine KQ.seq ?_
    refine WC.cond rfl (fun c2 => ?_) (fun c2 => ?_)
    · exact absurd c2 (by simp)
    · refine WC.skip ?_
      refine KQ.seq ?_
      refine WC.seq ?_
      refine WC.region ?_
      refine WO.val (.asg (.r rfl)) rfl ?_
      refine WO.nil ?_
      refine KQ.seq ?_
      refine WC.seq ?_
      refine WC.region ?_
      refine WO.val (.mv (.r rfl)) rfl ?_
      refine WO.val (.mv (.r rfl)) rfl ?_
      refine WO.call rfl ent_8 rfl (markC 1 ((readT s).getD []).length ((readT s).getD []) A2 d2 rfl (by decide) (by omega)) fun _ => ?_
      refine WO.val (.asg (.r rfl)) rfl ?_
      refine WO.nil ?_
      refine KQ.seq ?_
      refine WC.seq ?_
      refine WC.region ?_
      refine WO.val (.asg (.r rfl)) rfl ?_
      refine WO.nil ?_
      refine KQ.seq ?_
      refine WC.seq ?_
      refine WC.region ?_
      refine WO.val (.mv (.r rfl)) rfl ?_
      refine WO.val (.mv (.r rfl)) rfl ?_
      refine WO.callS rfl ent_9 rfl (fun w hw => heldC 1 ((readT s).getD []).length A2 d2 w (Sat.rowLd rPart rfl hw (by rw [mkL3_len])) (by decide) (by omega)) ?_
      refine WO.val (.asg (.r rfl)) rfl ?_
      refine WO.nil ?_
      refine KQ.seq ?_
      refine WC.seq ?_
      refine WC.seq ?_
      refine WC.region ?_
      refine WO.val (.mv (.r rfl)) rfl ?_
      refine WO.val (.bin (.r rfl) (.r rfl) rfl) rfl ?_
      refine WO.nil ?_
      refine KQ.seq ?_
      refine WC.cond rfl (fun c3 => ?_) (fun c3 => ?_)
      · exact absurd c3 (by simp; omega)
      · refine WC.skip ?_
        refine KQ.seq ?_
        refine WC.seq ?_
        refine WC.seq ?_
        refine WC.region ?_
        refine WO.val (.mv (.r rfl)) rfl ?_
        refine WO.val (.mv (.r rfl)) rfl ?_
        refine WO.val (.bin (.r rfl) (.r rfl) rfl) rfl ?_
        refine WO.nil ?_
        refine KQ.seq ?_
        refine WC.cond rfl (fun c4 => ?_) (fun c4 => ?_)
        · exact absurd c4 (by simp)
        · refine WC.skip ?_
          refine KQ.seq ?_
          refine WC.seq ?_
          refine WC.region ?_
          refine WO.val (.mv (.r rfl)) rfl ?_
          refine WO.callP rfl ent_6 rfl (fun w hw => implRead2 s hs w (hg.mono hw)) fun u3 => ?_
          refine WO.fact (fun w hw => hw.rowAny) fun hv => ?_
          obtain ⟨A3, d3, rfl⟩ := hv
          refine WO.val (.mv (.r rfl)) rfl ?_
          refine WO.val (.ext (.r rfl) rfl) rfl ?_
          refine WO.val (.ext (.r rfl) rfl) rfl ?_
          refine WO.val (.asg (.r rfl)) rfl ?_
          refine WO.val (.asg (.r rfl)) rfl ?_
          refine WO.nil ?_
          refine KQ.seq ?_
          refine WC.seq ?_
          refine WC.seq ?_
          refine WC.region ?_
          refine WO.val (.mv (.r rfl)) rfl ?_
          refine WO.val (.mv (.r rfl)) rfl ?_
          refine WO.callS rfl ent_7 rfl (fun w hw => eqPartS_calls ((readT s).getD []) ((readT s).getD []) A3 A1 d3 d1 w (Sat.rowLd rPart rfl hw rfl) (Sat.rowLd rPart rfl (hw.pull 2 (.s (.s .z))) rfl) (by rw [maxLen_eq]; omega)) ?_
          refine WO.val (.nt (.r rfl)) rfl ?_
          refine WO.val (.mv (.r rfl)) rfl ?_
          refine WO.gd rfl rfl rfl (fun h => (.mv (.r rfl))) ?_
          refine WO.gd rfl rfl rfl (fun h => (.mv (.r rfl))) ?_
          refine WO.gd rfl rfl rfl (fun h => (.bne Tryd.underlying4 (.g h rfl) (.g h rfl))) ?_
          refine WO.val (.or rfl rfl) rfl ?_
          refine WO.nil ?_
          refine KQ.seq ?_
          refine WC.cond rfl (fun c5 => ?_) (fun c5 => ?_)
          · exact absurd c5 (by simp)
          · refine WC.skip ?_
            refine KQ.seq ?_
            refine WC.seq ?_
            refine WC.region ?_
            refine WO.val (.asg (.r rfl)) rfl ?_
            refine WO.nil ?_
            refine KQ.seq ?_
            refine WC.seq ?_
            refine WC.region ?_
            refine WO.val (.mv (.r rfl)) rfl ?_
            refine WO.val (.mv (.r rfl)) rfl ?_
            refine WO.callS rfl ent_9 rfl (fun w hw => heldC 1 ((readT s).getD []).length A2 d2 w (Sat.rowLd rPart rfl (hw.pull 1 (.s .z)) (by rw [mkL3_len])) (by decide) (by omega)) ?_
            refine WO.val (.asg (.r rfl)) rfl ?_
            refine WO.nil ?_
            refine KQ.seq ?_
            refine WC.seq ?_
            refine WC.seq ?_
            refine WC.region ?_
            refine WO.val (.mv (.r rfl)) rfl ?_
            refine WO.val (.bin (.r rfl) (.r rfl) rfl) rfl ?_
            refine WO.nil ?_
            refine KQ.seq ?_
            refine WC.cond rfl (fun c6 => ?_) (fun c6 => ?_)
            · exact absurd c6 (by simp; omega)
            · refine WC.skip ?_
              refine KQ.seq ?_
              refine WC.seq ?_
              refine WC.seq ?_
              refine WC.region ?_
              refine WO.val (.mv (.r rfl)) rfl ?_
              refine WO.val (.mv (.r rfl)) rfl ?_
              refine WO.val (.bin (.r rfl) (.r rfl) rfl) rfl ?_
              refine WO.nil ?_
              refine KQ.seq ?_
              refine WC.cond rfl (fun c7 => ?_) (fun c7 => ?_)
              · exact absurd c7 (by simp)
              · refine WC.skip ?_
                refine KQ.seq ?_
                refine WC.seq ?_
                refine WC.region ?_
                refine WO.val (.asg (.r rfl)) rfl ?_
                refine WO.nil ?_
                refine KQ.seq ?_
                refine WC.ret ?_
                exact KQ.fin rfl (.tmp rfl .nil) (fun w hw => ⟨(), rfl, hw.none⟩)
end Go.Proofs.YtfnaplhjkapghaaDoor
