/- A part of the proofs of this seat: contracts of the functions that its statements reach. -/
import Derived.Test.YtfnaplhjkapghaaDoorT30
import Derived.Test.YtfnaplhjkapghaaDoorProg
set_option linter.unusedVariables false
set_option linter.unusedSimpArgs false
set_option maxRecDepth 4000
namespace Go.Proofs.YtfnaplhjkapghaaDoor
open Go Go.RowKit Go.Proofs.YtfnaplhjkapghaaDoor.Sp
theorem ent_10 : Ent Tryd.prog 10 := ent_of Tryd.prog Tryd.func10 rfl rfl
theorem ent_11 : Ent Tryd.prog 11 := ent_of Tryd.prog Tryd.func11 rfl rfl
theorem ent_12 : Ent Tryd.prog 12 := ent_of Tryd.prog Tryd.func12 rfl rfl
theorem ent_13 : Ent Tryd.prog 13 := ent_of Tryd.prog Tryd.func13 rfl rfl

def sT (ps : List Part) : List UInt8 := if good ps = true then chT ps else []
theorem sT_len {ps : List Part} (hl : ps.length ≤ 1000) : (sT ps).length ≤ 1048576 := by
  unfold sT
  split
  · rename_i h
    have := txt_len (fun p hp => (gspec_small ps none 0 0 h p hp).1) ps.length (Nat.le_refl _)
    rw [List.take_length] at this
    unfold chT; split
    · simp
    · omega
  · simp
theorem sT_back {ps : List Part} (h : good ps = true) : readT (sT ps) = some ps := by unfold sT; rw [if_pos h]; exact read_back h

/-! laws.FnTexts -/
theorem lawTexts (l : List UInt8) (A : Option Addr) (c : Nat) (w : World) (hg : GL w) (hr : RdL (hp w) rB A l) : CV Tryd.prog 4 [.slice A l.length c] w (.bool true) := by
  refine CV.of ?_
  refine enter Tryd.func4 rfl rfl rfl (Sat.start w) ?_
  simp only [mkL]
  refine WC.seq ?_
  refine WC.region ?_
  refine WO.val (.asg (.r rfl)) rfl ?_
  refine WO.nil ?_
  refine KQ.seq ?_
  refine WC.seq ?_
  refine WC.seq ?_
  refine WC.region ?_
  refine WO.val (.mv (.r rfl)) rfl ?_
  refine WO.val (.len sli_28 (.r rfl)) rfl ?_
  refine WO.val (.bin (.r rfl) (.r rfl) rfl) rfl ?_
  refine WO.nil ?_
  refine KQ.seq ?_
  refine WC.cond rfl (fun k12 => ?_) (fun k12 => ?_)
  · refine WC.seq ?_
    refine WC.region ?_
    refine WO.val (.asg (.r rfl)) rfl ?_
    refine WO.nil ?_
    refine KQ.seq ?_
    refine WC.ret ?_
    exact KQ.thenR (KQ.fin rfl (.tmp rfl .nil) (fun w hw => ⟨(), rfl, hw⟩))
  · refine WC.skip ?_
    refine KQ.seq ?_
    refine WC.seq ?_
    refine WC.region ?_
    refine WO.val (.mv (.r rfl)) rfl ?_
    refine WO.callP rfl ent_10 rfl (fun w hw => drawText l A c w (hr.mono hw.old)) fun q => ?_
    refine WO.fact (fun w hw => (Sat.pure1 hw).1) fun hq => ?_
    refine WO.drop ?_
    refine WO.fact (fun w hw => hw.rowAny) fun hv => ?_
    obtain ⟨v, ps⟩ := q
    dsimp only at hq hv
    obtain ⟨A1, d1, rfl⟩ := hv
    have hsl := sT_len hq.1
    refine WO.val (.asg (.r rfl)) rfl ?_
    refine WO.nil ?_
    refine KQ.seq ?_
    refine WC.seq ?_
    refine WC.region ?_
    refine WO.val (.mv (.r rfl)) rfl ?_
    refine WO.callS rfl ent_11 rfl (fun w hw => imTextC ps A1 d1 w (hg.mono hw) (Sat.rowLd rPart rfl hw rfl) (by omega) (fun p hp => Nat.le_trans (hq.2 p hp) (by omega))) ?_
    refine WO.val (.mv (.r rfl)) rfl ?_
    refine WO.val (.ext (.r rfl) rfl) rfl ?_
    refine WO.val (.ext (.r rfl) rfl) rfl ?_
    refine WO.val (.asg (.r rfl)) rfl ?_
    refine WO.val (.asg (.r rfl)) rfl ?_
    refine WO.nil ?_
    refine KQ.seq ?_
    refine WC.seq ?_
    refine WC.region ?_
    refine WO.val (.mv (.r rfl)) rfl ?_
    refine WO.callS rfl ent_12 rfl (fun w hw => spTextC ps A1 d1 w (Sat.rowLd rPart rfl hw rfl) (by omega)) ?_
    refine WO.val (.mv (.r rfl)) rfl ?_
    refine WO.val (.ext (.r rfl) rfl) rfl ?_
    refine WO.val (.ext (.r rfl) rfl) rfl ?_
    refine WO.val (.asg (.r rfl)) rfl ?_
    refine WO.val (.asg (.r rfl)) rfl ?_
    refine WO.nil ?_
    refine KQ.seq ?_
    refine WC.seq ?_
    refine WC.seq ?_
    refine WC.region ?_
    refine WO.val (.mv (.r rfl)) rfl ?_
    refine WO.val (.mv (.r rfl)) rfl ?_
    refine WO.val (.bne Tryd.underlying4 (.r rfl) (.r rfl)) rfl ?_
    refine WO.val (.mv (.r rfl)) rfl ?_
    refine WO.gd rfl rfl rfl (fun h => (.mv (.r rfl))) ?_
    refine WO.gd rfl rfl rfl (fun h => (.mv (.r rfl))) ?_
    refine WO.gd rfl rfl rfl (fun h => (.neS (.g h rfl) (.g h rfl))) ?_
    refine WO.val (.or rfl rfl) rfl ?_
    refine WO.nil ?_
    refine KQ.seq ?_
    refine WC.cond rfl (fun k32 => ?_) (fun k32 => ?_)
    · exact absurd k32 (by simp)
    · refine WC.skip ?_
      refine KQ.seq ?_
      refine WC.seq ?_
      refine WC.seq ?_
      refine WC.region ?_
      refine WO.val (.mv (.r rfl)) rfl ?_
      refine WO.val (.nt (.r rfl)) rfl ?_
      refine WO.nil ?_
      refine KQ.seq ?_
      refine WC.cond rfl (fun k34 => ?_) (fun k34 => ?_)
      · have hgd : good ps = false := by simpa using k34
        refine WC.seq ?_
        refine WC.region ?_
        refine WO.val (.mv (.r rfl)) rfl ?_
        refine WO.val (.eqS (.r rfl) (.r rfl)) rfl ?_
        refine WO.val (.asg (.r rfl)) rfl ?_
        refine WO.nil ?_
        refine KQ.seq ?_
        refine WC.ret ?_
        exact KQ.thenR (KQ.fin rfl (.tmp rfl .nil) (fun w hw => ⟨(), by rw [hgd]; rfl, hw.none⟩))
      · have hgd : good ps = true := by simpa using k34
        refine WC.skip ?_
        refine KQ.seq ?_
        refine WC.seq ?_
        refine WC.region ?_
        refine WO.val (.mv (.r rfl)) rfl ?_
        refine WO.callP rfl ent_6 rfl (fun w hw => implRead2 (sT ps) hsl w (hg.mono hw)) fun u3 => ?_
        refine WO.fact (fun w hw => hw.rowAny) fun hv => ?_
        obtain ⟨A3, d3, rfl⟩ := hv
        refine WO.val (.mv (.r rfl)) rfl ?_
        refine WO.val (.ext (.r rfl) rfl) rfl ?_
        refine WO.val (.ext (.r rfl) rfl) rfl ?_
        refine WO.val (.asg (.r rfl)) rfl ?_
        refine WO.val (.asg (.r rfl)) rfl ?_
        refine WO.nil ?_
        refine KQ.seq ?_
        refine WC.seq ?_
        refine WC.region ?_
        refine WO.val (.mv (.r rfl)) rfl ?_
        refine WO.val (.mv (.r rfl)) rfl ?_
        refine WO.gd rfl rfl rfl (fun h => (.mv (.r rfl))) ?_
        refine WO.gd rfl rfl rfl (fun h => (.mv (.r rfl))) ?_
        refine WO.gdC rfl rfl rfl ent_13 (fun h => ⟨.cons (.g h rfl) (.cons (.g h rfl) (.nil)), fun w hw => sameC ps ((readT (sT ps)).getD []) A1 A3 d1 d3 w (Sat.rowLd rPart rfl (hw.pull 1 (.s .z)) rfl) (Sat.rowLd rPart rfl hw rfl) (by omega)⟩) ?_
        refine WO.val (.and rfl rfl) rfl ?_
        refine WO.val (.asg (.r rfl)) rfl ?_
        refine WO.nil ?_
        refine KQ.seq ?_
        refine WC.ret ?_
        exact KQ.fin rfl (.tmp rfl .nil) (fun w hw => ⟨(), by rw [sT_back hgd]; simp [tupV], hw.none⟩)
end Go.Proofs.YtfnaplhjkapghaaDoor
