/- A part of the proofs of this seat: contracts of the functions that its statements reach. -/
import Derived.Test.YtfnaplhjkapghaaDoorT10
import Derived.Test.YtfnaplhjkapghaaDoorProg
set_option linter.unusedVariables false
set_option linter.unusedSimpArgs false
set_option maxRecDepth 4000
namespace Go.Proofs.YtfnaplhjkapghaaDoor
open Go Go.RowKit Go.Proofs.YtfnaplhjkapghaaDoor.Sp
theorem ent_48 : Ent Tryd.prog 48 := ent_of Tryd.prog Tryd.func48 rfl rfl
theorem ent_64 : Ent Tryd.prog 64 := ent_of Tryd.prog Tryd.func64 rfl rfl

theorem atoiInFail (s : List UInt8) (hs : s.length ≤ 18) (h0 : Lib.atoi s = none) (w : World) : CV Tryd.prog 48 [str s] w (.tuple #[.int .i64 0, .iface 81 (.int .i64 2)]) := by
  refine (Tryd.internal_strconv_Atoi_fail ⟨s.toArray⟩ hs (by simpa using h0) w).mono ?_
  rintro e w' ⟨he, hw⟩
  refine ⟨he, ?_⟩
  rcases hw with rfl | ⟨t, rfl⟩
  · exact Sat.start _
  · exact sat_below (Lib.bytesWorld_below w 5 t)

/-! internal/strconv.ParseInt -/
set_option maxHeartbeats 400000 in
theorem parseInt (s : List UInt8) (hs : 19 ≤ s.length) (hl : s.length ≤ 1048576) (w : World) : CP Tryd.prog 64 [str s, .int .i64 10, .int .i64 0] w (fun q : Int × Nat => .tuple #[.int .i64 q.1, errC q.2]) (fun q => [.pu (q.2 ≤ 2)]) := by
  have hd0 : 0 < (s.drop 1).length := by rw [List.length_drop]; omega
  have hd1 : (s.drop 1).length ≤ 1048576 := by rw [List.length_drop]; omega
  refine enter Tryd.func64 rfl rfl rfl (Sat.start w) ?_
  simp only [mkL]
  refine WC.seq ?_
  refine WC.region ?_
  refine WO.val (.asg (.r rfl)) rfl ?_
  refine WO.val (.asg (.r rfl)) rfl ?_
  refine WO.nil ?_
  refine KQ.seq ?_
  refine WC.seq ?_
  refine WC.seq ?_
  refine WC.region ?_
  refine WO.val (.mv (.r rfl)) rfl ?_
  refine WO.val (.eqS (.r rfl) (.r rfl)) rfl ?_
  refine WO.nil ?_
  refine KQ.seq ?_
  refine WC.cond rfl (fun c1 => ?_) (fun c1 => ?_)
  · exact absurd c1 (by intro h; simp at h; rw [h] at hs; simp at hs)
  · refine WC.skip ?_
    refine KQ.seq ?_
    refine WC.seq ?_
    refine WC.region ?_
    refine WO.val (.asg (.r rfl)) rfl ?_
    refine WO.nil ?_
    refine KQ.seq ?_
    refine WC.seq ?_
    refine WC.seq ?_
    refine WC.region ?_
    refine WO.val (.mv (.r rfl)) rfl ?_
    refine WO.val (.ixT Tryd.underlying9 (.r rfl) (.r rfl) (k := 0) (gD (by omega))) rfl ?_
    refine WO.nil ?_
    refine KQ.seq ?_
    refine WC.block ?_
    refine WC.seq ?_
    refine WC.region ?_
    refine WO.val (.bin (.r rfl) (.r rfl) rfl) rfl ?_
    refine WO.val (.asg (.r rfl)) rfl ?_
    refine WO.nil ?_
    refine KQ.seq ?_
    refine WC.cond rfl (fun c2 => ?_) (fun c2 => ?_)
    · refine WC.region ?_
      refine WO.val (.mv (.r rfl)) rfl ?_
      refine WO.val (.slL Tryd.underlying9 (.r rfl) (.r rfl) (a := 1) (by omega)) rfl ?_
      refine WO.val (.asg (.r rfl)) rfl ?_
      refine WO.nil ?_
      refine KQ.blockN (KQ.seq ?_)
      refine WC.seq ?_
      refine WC.region ?_
      refine WO.val (.asg (.r rfl)) rfl ?_
      refine WO.nil ?_
      refine KQ.seq ?_
      refine WC.seq ?_
      refine WC.region ?_
      refine WO.val (.mv (.r rfl)) rfl ?_
      refine WO.val (.mv (.r rfl)) rfl ?_
      refine WO.val (.mv (.r rfl)) rfl ?_
      refine WO.callP (vs := [str (s.drop 1), .int .i64 10, .int .i64 0]) rfl ent_51 rfl (fun w hw => puT (s.drop 1) hd0 hd1 w) fun q => ?_
      refine WO.fact (fun w hw => (Sat.pure1 hw).1) fun hq => ?_
      refine WO.drop ?_
      refine WO.val (.mv (.r rfl)) rfl ?_
      refine WO.val (.ext (.r rfl) rfl) rfl ?_
      refine WO.val (.ext (.r rfl) rfl) rfl ?_
      refine WO.val (.asg (.r rfl)) rfl ?_
      refine WO.val (.asg (.r rfl)) rfl ?_
      refine WO.nil ?_
      refine KQ.seq ?_
      refine WC.seq ?_
      refine WC.seq ?_
      refine WC.region ?_
      refine WO.val (.mv (.r rfl)) rfl ?_
      refine WO.val (.neN ifc_50 (.r rfl) (errC_is q.2)) rfl ?_
      refine WO.val (.mv (.r rfl)) rfl ?_
      refine WO.gd rfl rfl rfl (fun h => (.mv (.r rfl))) ?_
      refine WO.gd rfl rfl rfl (fun h => (.mki con_81 (.r rfl))) ?_
      refine WO.gd rfl rfl rfl (fun h => (.neE ifcE eriE (a := (q.2 : Int)) ⟨_, rfl, gvErr h (fun h => by simpa using h)⟩ (.g h rfl))) ?_
      refine WO.val (.and rfl rfl) rfl ?_
      refine WO.nil ?_
      refine KQ.seq ?_
      refine WC.cond rfl (fun c3 => ?_) (fun c3 => ?_)
      · refine WC.seq ?_
        refine WC.region ?_
        refine WO.val (.mv (.r rfl)) rfl ?_
        refine WO.val (.asg (.r rfl)) rfl ?_
        refine WO.val (.asg (.r rfl)) rfl ?_
        refine WO.nil ?_
        refine KQ.seq ?_
        refine WC.ret ?_
        exact KQ.thenR (KQ.fin rfl (.tmp rfl (.tmp rfl .nil)) (fun w hw => ⟨(_, q.2), rfl, Sat.pureI hq hw.none⟩))
      · refine WC.skip ?_
        refine KQ.seq ?_
        refine WC.seq ?_
        refine WC.seq ?_
        refine WC.region ?_
        refine WO.val (.mv (.r rfl)) rfl ?_
        refine WO.val (.bin (.r rfl) (.r rfl) rfl) rfl ?_
        refine WO.nil ?_
        refine KQ.seq ?_
        refine WC.cond rfl (fun c4 => ?_) (fun c4 => ?_)
        · refine WC.region ?_
          refine WO.val (.asg (.r rfl)) rfl ?_
          refine WO.nil ?_
          refine KQ.seq ?_
          refine WC.seq ?_
          refine WC.region ?_
          refine WO.val (.mv (.r rfl)) rfl ?_
          refine WO.val (.bin (.r rfl) (.r rfl) (show _ = some (Value.int .i64 63) from rfl)) rfl ?_
          refine WO.val (.cvi Tryd.underlying3 Tryd.underlying71 (.r rfl) (show _ = Value.int .u64 63 from rfl)) rfl ?_
          refine WO.val (.bin (.r rfl) (.r rfl) (show _ = some (Value.int .u64 9223372036854775808) from rfl)) rfl ?_
          refine WO.val (.asg (.r rfl)) rfl ?_
          refine WO.nil ?_
          refine KQ.seq ?_
          refine WC.seq ?_
          refine WC.seq ?_
          refine WC.region ?_
          refine WO.val (.mv (.r rfl)) rfl ?_
          refine WO.val (.nt (.r rfl)) rfl ?_
          refine WO.val (.mv (.r rfl)) rfl ?_
          refine WO.gd rfl rfl rfl (fun h => (.mv (.r rfl))) ?_
          refine WO.gd rfl rfl rfl (fun h => (.mv (.r rfl))) ?_
          refine WO.gd rfl rfl rfl (fun h => (.bin (.g h rfl) (.g h rfl) rfl)) ?_
          refine WO.val (.and rfl rfl) rfl ?_
          refine WO.nil ?_
          refine KQ.seq ?_
          refine WC.cond rfl (fun c5 => ?_) (fun c5 => ?_)
          · refine WC.seq ?_
            refine WC.region ?_
            refine WO.val (.mv (.r rfl)) rfl ?_
            refine WO.val (.bin (.r rfl) (.r rfl) rfl) rfl ?_
            refine WO.val (.cvi Tryd.underlying53 Tryd.underlying2 (.r rfl) rfl) rfl ?_
            refine WO.val (.mki con_81 (.r rfl)) rfl ?_
            refine WO.val (.asg (.r rfl)) rfl ?_
            refine WO.val (.asg (.r rfl)) rfl ?_
            refine WO.nil ?_
            refine KQ.seq ?_
            refine WC.ret ?_
            exact KQ.thenR (KQ.fin rfl (.tmp rfl (.tmp rfl .nil)) (fun w hw => ⟨(_, 1), rfl, Sat.pureI (Nat.le_succ 1) hw.none⟩))
          · refine WC.skip ?_
            refine KQ.seq ?_
            refine WC.seq ?_
            refine WC.seq ?_
            refine WC.region ?_
            refine WO.val (.mv (.r rfl)) rfl ?_
            refine WO.val (.mv (.r rfl)) rfl ?_
            refine WO.gd rfl rfl rfl (fun h => (.mv (.r rfl))) ?_
            refine WO.gd rfl rfl rfl (fun h => (.mv (.r rfl))) ?_
            refine WO.gd rfl rfl rfl (fun h => (.bin (.g h rfl) (.g h rfl) rfl)) ?_
            refine WO.val (.and rfl rfl) rfl ?_
            refine WO.nil ?_
            refine KQ.seq ?_
            refine WC.cond rfl (fun c6 => ?_) (fun c6 => ?_)
            · refine WC.seq ?_
              refine WC.region ?_
              refine WO.val (.mv (.r rfl)) rfl ?_
              refine WO.val (.cvi Tryd.underlying53 Tryd.underlying2 (.r rfl) rfl) rfl ?_
              refine WO.val (.ng (.r rfl)) rfl ?_
              refine WO.val (.mki con_81 (.r rfl)) rfl ?_
              refine WO.val (.asg (.r rfl)) rfl ?_
              refine WO.val (.asg (.r rfl)) rfl ?_
              refine WO.nil ?_
              refine KQ.seq ?_
              refine WC.ret ?_
              exact KQ.thenR (KQ.fin rfl (.tmp rfl (.tmp rfl .nil)) (fun w hw => ⟨(_, 1), rfl, Sat.pureI (Nat.le_succ 1) hw.none⟩))
            · refine WC.skip ?_
              refine KQ.seq ?_
              refine WC.seq ?_
              refine WC.region ?_
              refine WO.val (.mv (.r rfl)) rfl ?_
              refine WO.val (.cvi Tryd.underlying53 Tryd.underlying2 (.r rfl) rfl) rfl ?_
              refine WO.val (.asg (.r rfl)) rfl ?_
              refine WO.nil ?_
              refine KQ.seq ?_
              refine WC.seq ?_
              refine WC.seq ?_
              refine WC.region ?_
              refine WO.val (.mv (.r rfl)) rfl ?_
              refine WO.nil ?_
              refine KQ.seq ?_
              refine WC.cond rfl (fun c7 => ?_) (fun c7 => ?_)
              · refine WC.region ?_
                refine WO.val (.mv (.r rfl)) rfl ?_
                refine WO.val (.ng (.r rfl)) rfl ?_
                refine WO.val (.asg (.r rfl)) rfl ?_
                refine WO.nil ?_
                refine KQ.seq ?_
                refine WC.seq ?_
                refine WC.region ?_
                refine WO.val (.mv (.r rfl)) rfl ?_
                refine WO.val (.asg (.r rfl)) rfl ?_
                refine WO.val (.asg (.r rfl)) rfl ?_
                refine WO.nil ?_
                refine KQ.seq ?_
                refine WC.ret ?_
                exact KQ.fin rfl (.tmp rfl (.tmp rfl .nil)) (fun w hw => ⟨(_, 0), rfl, Sat.pureI (Nat.zero_le 2) hw.none⟩)
              · refine WC.skip ?_
                refine KQ.seq ?_
                refine WC.seq ?_
                refine WC.region ?_
                refine WO.val (.mv (.r rfl)) rfl ?_
                refine WO.val (.asg (.r rfl)) rfl ?_
                refine WO.val (.asg (.r rfl)) rfl ?_
                refine WO.nil ?_
                refine KQ.seq ?_
                refine WC.ret ?_
                exact KQ.fin rfl (.tmp rfl (.tmp rfl .nil)) (fun w hw => ⟨(_, 0), rfl, Sat.pureI (Nat.zero_le 2) hw.none⟩)
        · exact absurd c4 (by decide)
    · refine WC.seq ?_
      refine WC.region ?_
      refine WO.val (.bin (.r rfl) (.r rfl) rfl) rfl ?_
      refine WO.val (.asg (.r rfl)) rfl ?_
      refine WO.nil ?_
      refine KQ.seq ?_
      refine WC.cond rfl (fun c8 => ?_) (fun c8 => ?_)
      · refine WC.seq ?_
        refine WC.region ?_
        refine WO.val (.mv (.r rfl)) rfl ?_
        refine WO.val (.slL Tryd.underlying9 (.r rfl) (.r rfl) (a := 1) (by omega)) rfl ?_
        refine WO.val (.asg (.r rfl)) rfl ?_
        refine WO.nil ?_
        refine KQ.seq ?_
        refine WC.region ?_
        refine WO.val (.asg (.r rfl)) rfl ?_
        refine WO.nil ?_
        refine KQ.blockN (KQ.seq ?_)
        refine WC.seq ?_
        refine WC.region ?_
        refine WO.val (.asg (.r rfl)) rfl ?_
        refine WO.nil ?_
        refine KQ.seq ?_
        refine WC.seq ?_
        refine WC.region ?_
        refine WO.val (.mv (.r rfl)) rfl ?_
        refine WO.val (.mv (.r rfl)) rfl ?_
        refine WO.val (.mv (.r rfl)) rfl ?_
        refine WO.callP (vs := [str (s.drop 1), .int .i64 10, .int .i64 0]) rfl ent_51 rfl (fun w hw => puT (s.drop 1) hd0 hd1 w) fun q => ?_
        refine WO.fact (fun w hw => (Sat.pure1 hw).1) fun hq => ?_
        refine WO.drop ?_
        refine WO.val (.mv (.r rfl)) rfl ?_
        refine WO.val (.ext (.r rfl) rfl) rfl ?_
        refine WO.val (.ext (.r rfl) rfl) rfl ?_
        refine WO.val (.asg (.r rfl)) rfl ?_
        refine WO.val (.asg (.r rfl)) rfl ?_
        refine WO.nil ?_
        refine KQ.seq ?_
        refine WC.seq ?_
        refine WC.seq ?_
        refine WC.region ?_
        refine WO.val (.mv (.r rfl)) rfl ?_
        refine WO.val (.neN ifc_50 (.r rfl) (errC_is q.2)) rfl ?_
        refine WO.val (.mv (.r rfl)) rfl ?_
        refine WO.gd rfl rfl rfl (fun h => (.mv (.r rfl))) ?_
        refine WO.gd rfl rfl rfl (fun h => (.mki con_81 (.r rfl))) ?_
        refine WO.gd rfl rfl rfl (fun h => (.neE ifcE eriE (a := (q.2 : Int)) ⟨_, rfl, gvErr h (fun h => by simpa using h)⟩ (.g h rfl))) ?_
        refine WO.val (.and rfl rfl) rfl ?_
        refine WO.nil ?_
        refine KQ.seq ?_
        refine WC.cond rfl (fun c9 => ?_) (fun c9 => ?_)
        · refine WC.seq ?_
          refine WC.region ?_
          refine WO.val (.mv (.r rfl)) rfl ?_
          refine WO.val (.asg (.r rfl)) rfl ?_
          refine WO.val (.asg (.r rfl)) rfl ?_
          refine WO.nil ?_
          refine KQ.seq ?_
          refine WC.ret ?_
          exact KQ.thenR (KQ.fin rfl (.tmp rfl (.tmp rfl .nil)) (fun w hw => ⟨(_, q.2), rfl, Sat.pureI hq hw.none⟩))
        · refine WC.skip ?_
          refine KQ.seq ?_
          refine WC.seq ?_
          refine WC.seq ?_
          refine WC.region ?_
          refine WO.val (.mv (.r rfl)) rfl ?_
          refine WO.val (.bin (.r rfl) (.r rfl) rfl) rfl ?_
          refine WO.nil ?_
          refine KQ.seq ?_
          refine WC.cond rfl (fun c10 => ?_) (fun c10 => ?_)
          · refine WC.region ?_
            refine WO.val (.asg (.r rfl)) rfl ?_
            refine WO.nil ?_
            refine KQ.seq ?_
            refine WC.seq ?_
            refine WC.region ?_
            refine WO.val (.mv (.r rfl)) rfl ?_
            refine WO.val (.bin (.r rfl) (.r rfl) (show _ = some (Value.int .i64 63) from rfl)) rfl ?_
            refine WO.val (.cvi Tryd.underlying3 Tryd.underlying71 (.r rfl) (show _ = Value.int .u64 63 from rfl)) rfl ?_
            refine WO.val (.bin (.r rfl) (.r rfl) (show _ = some (Value.int .u64 9223372036854775808) from rfl)) rfl ?_
            refine WO.val (.asg (.r rfl)) rfl ?_
            refine WO.nil ?_
            refine KQ.seq ?_
            refine WC.seq ?_
            refine WC.seq ?_
            refine WC.region ?_
            refine WO.val (.mv (.r rfl)) rfl ?_
            refine WO.val (.nt (.r rfl)) rfl ?_
            refine WO.val (.mv (.r rfl)) rfl ?_
            refine WO.gd rfl rfl rfl (fun h => (.mv (.r rfl))) ?_
            refine WO.gd rfl rfl rfl (fun h => (.mv (.r rfl))) ?_
            refine WO.gd rfl rfl rfl (fun h => (.bin (.g h rfl) (.g h rfl) rfl)) ?_
            refine WO.val (.and rfl rfl) rfl ?_
            refine WO.nil ?_
            refine KQ.seq ?_
            refine WC.cond rfl (fun c11 => ?_) (fun c11 => ?_)
            · refine WC.seq ?_
              refine WC.region ?_
              refine WO.val (.mv (.r rfl)) rfl ?_
              refine WO.val (.bin (.r rfl) (.r rfl) rfl) rfl ?_
              refine WO.val (.cvi Tryd.underlying53 Tryd.underlying2 (.r rfl) rfl) rfl ?_
              refine WO.val (.mki con_81 (.r rfl)) rfl ?_
              refine WO.val (.asg (.r rfl)) rfl ?_
              refine WO.val (.asg (.r rfl)) rfl ?_
              refine WO.nil ?_
              refine KQ.seq ?_
              refine WC.ret ?_
              exact KQ.thenR (KQ.fin rfl (.tmp rfl (.tmp rfl .nil)) (fun w hw => ⟨(_, 1), rfl, Sat.pureI (Nat.le_succ 1) hw.none⟩))
            · refine WC.skip ?_
              refine KQ.seq ?_
              refine WC.seq ?_
              refine WC.seq ?_
              refine WC.region ?_
              refine WO.val (.mv (.r rfl)) rfl ?_
              refine WO.val (.mv (.r rfl)) rfl ?_
              refine WO.gd rfl rfl rfl (fun h => (.mv (.r rfl))) ?_
              refine WO.gd rfl rfl rfl (fun h => (.mv (.r rfl))) ?_
              refine WO.gd rfl rfl rfl (fun h => (.bin (.g h rfl) (.g h rfl) rfl)) ?_
              refine WO.val (.and rfl rfl) rfl ?_
              refine WO.nil ?_
              refine KQ.seq ?_
              refine WC.cond rfl (fun c12 => ?_) (fun c12 => ?_)
              · refine WC.seq ?_
                refine WC.region ?_
                refine WO.val (.mv (.r rfl)) rfl ?_
                refine WO.val (.cvi Tryd.underlying53 Tryd.underlying2 (.r rfl) rfl) rfl ?_
                refine WO.val (.ng (.r rfl)) rfl ?_
                refine WO.val (.mki con_81 (.r rfl)) rfl ?_
                refine WO.val (.asg (.r rfl)) rfl ?_
                refine WO.val (.asg (.r rfl)) rfl ?_
                refine WO.nil ?_
                refine KQ.seq ?_
                refine WC.ret ?_
                exact KQ.thenR (KQ.fin rfl (.tmp rfl (.tmp rfl .nil)) (fun w hw => ⟨(_, 1), rfl, Sat.pureI (Nat.le_succ 1) hw.none⟩))
              · refine WC.skip ?_
                refine KQ.seq ?_
                refine WC.seq ?_
                refine WC.region ?_
                refine WO.val (.mv (.r rfl)) rfl ?_
                refine WO.val (.cvi Tryd.underlying53 Tryd.underlying2 (.r rfl) rfl) rfl ?_
                refine WO.val (.asg (.r rfl)) rfl ?_
                refine WO.nil ?_
                refine KQ.seq ?_
                refine WC.seq ?_
                refine WC.seq ?_
                refine WC.region ?_
                refine WO.val (.mv (.r rfl)) rfl ?_
                refine WO.nil ?_
                refine KQ.seq ?_
                refine WC.cond rfl (fun c13 => ?_) (fun c13 => ?_)
                · refine WC.region ?_
                  refine WO.val (.mv (.r rfl)) rfl ?_
                  refine WO.val (.ng (.r rfl)) rfl ?_
                  refine WO.val (.asg (.r rfl)) rfl ?_
                  refine WO.nil ?_
                  refine KQ.seq ?_
                  refine WC.seq ?_
                  refine WC.region ?_
                  refine WO.val (.mv (.r rfl)) rfl ?_
                  refine WO.val (.asg (.r rfl)) rfl ?_
                  refine WO.val (.asg (.r rfl)) rfl ?_
                  refine WO.nil ?_
                  refine KQ.seq ?_
                  refine WC.ret ?_
                  exact KQ.fin rfl (.tmp rfl (.tmp rfl .nil)) (fun w hw => ⟨(_, 0), rfl, Sat.pureI (Nat.zero_le 2) hw.none⟩)
                · refine WC.skip ?_
                  refine KQ.seq ?_
                  refine WC.seq ?_
                  refine WC.region ?_
                  refine WO.val (.mv (.r rfl)) rfl ?_
                  refine WO.val (.asg (.r rfl)) rfl ?_
                  refine WO.val (.asg (.r rfl)) rfl ?_
                  refine WO.nil ?_
                  refine KQ.seq ?_
                  refine WC.ret ?_
                  exact KQ.fin rfl (.tmp rfl (.tmp rfl .nil)) (fun w hw => ⟨(_, 0), rfl, Sat.pureI (Nat.zero_le 2) hw.none⟩)
          · exact absurd c10 (by decide)
      · refine WC.skip ?_
        refine KQ.blockN (KQ.seq ?_)
        refine WC.seq ?_
        refine WC.region ?_
        refine WO.val (.asg (.r rfl)) rfl ?_
        refine WO.nil ?_
        refine KQ.seq ?_
        refine WC.seq ?_
        refine WC.region ?_
        refine WO.val (.mv (.r rfl)) rfl ?_
        refine WO.val (.mv (.r rfl)) rfl ?_
        refine WO.val (.mv (.r rfl)) rfl ?_
        refine WO.callP (vs := [str (s), .int .i64 10, .int .i64 0]) rfl ent_51 rfl (fun w hw => puT (s) (Nat.lt_of_lt_of_le (Nat.succ_pos 18) hs) hl w) fun q => ?_
        refine WO.fact (fun w hw => (Sat.pure1 hw).1) fun hq => ?_
        refine WO.drop ?_
        refine WO.val (.mv (.r rfl)) rfl ?_
        refine WO.val (.ext (.r rfl) rfl) rfl ?_
        refine WO.val (.ext (.r rfl) rfl) rfl ?_
        refine WO.val (.asg (.r rfl)) rfl ?_
        refine WO.val (.asg (.r rfl)) rfl ?_
        refine WO.nil ?_
        refine KQ.seq ?_
        refine WC.seq ?_
        refine WC.seq ?_
        refine WC.region ?_
        refine WO.val (.mv (.r rfl)) rfl ?_
        refine WO.val (.neN ifc_50 (.r rfl) (errC_is q.2)) rfl ?_
        refine WO.val (.mv (.r rfl)) rfl ?_
        refine WO.gd rfl rfl rfl (fun h => (.mv (.r rfl))) ?_
        refine WO.gd rfl rfl rfl (fun h => (.mki con_81 (.r rfl))) ?_
        refine WO.gd rfl rfl rfl (fun h => (.neE ifcE eriE (a := (q.2 : Int)) ⟨_, rfl, gvErr h (fun h => by simpa using h)⟩ (.g h rfl))) ?_
        refine WO.val (.and rfl rfl) rfl ?_
        refine WO.nil ?_
        refine KQ.seq ?_
        refine WC.cond rfl (fun c14 => ?_) (fun c14 => ?_)
        · refine WC.seq ?_
          refine WC.region ?_
          refine WO.val (.mv (.r rfl)) rfl ?_
          refine WO.val (.asg (.r rfl)) rfl ?_
          refine WO.val (.asg (.r rfl)) rfl ?_
          refine WO.nil ?_
          refine KQ.seq ?_
          refine WC.ret ?_
          exact KQ.thenR (KQ.fin rfl (.tmp rfl (.tmp rfl .nil)) (fun w hw => ⟨(_, q.2), rfl, Sat.pureI hq hw.none⟩))
        · refine WC.skip ?_
          refine KQ.seq ?_
          refine WC.seq ?_
          refine WC.seq ?_
          refine WC.region ?_
          refine WO.val (.mv (.r rfl)) rfl ?_
          refine WO.val (.bin (.r rfl) (.r rfl) rfl) rfl ?_
          refine WO.nil ?_
          refine KQ.seq ?_
          refine WC.cond rfl (fun c15 => ?_) (fun c15 => ?_)
          · refine WC.region ?_
            refine WO.val (.asg (.r rfl)) rfl ?_
            refine WO.nil ?_
            refine KQ.seq ?_
            refine WC.seq ?_
            refine WC.region ?_
            refine WO.val (.mv (.r rfl)) rfl ?_
            refine WO.val (.bin (.r rfl) (.r rfl) (show _ = some (Value.int .i64 63) from rfl)) rfl ?_
            refine WO.val (.cvi Tryd.underlying3 Tryd.underlying71 (.r rfl) (show _ = Value.int .u64 63 from rfl)) rfl ?_
            refine WO.val (.bin (.r rfl) (.r rfl) (show _ = some (Value.int .u64 9223372036854775808) from rfl)) rfl ?_
            refine WO.val (.asg (.r rfl)) rfl ?_
            refine WO.nil ?_
            refine KQ.seq ?_
            refine WC.seq ?_
            refine WC.seq ?_
            refine WC.region ?_
            refine WO.val (.mv (.r rfl)) rfl ?_
            refine WO.val (.nt (.r rfl)) rfl ?_
            refine WO.val (.mv (.r rfl)) rfl ?_
            refine WO.gd rfl rfl rfl (fun h => (.mv (.r rfl))) ?_
            refine WO.gd rfl rfl rfl (fun h => (.mv (.r rfl))) ?_
            refine WO.gd rfl rfl rfl (fun h => (.bin (.g h rfl) (.g h rfl) rfl)) ?_
            refine WO.val (.and rfl rfl) rfl ?_
            refine WO.nil ?_
            refine KQ.seq ?_
            refine WC.cond rfl (fun c16 => ?_) (fun c16 => ?_)
            · refine WC.seq ?_
              refine WC.region ?_
              refine WO.val (.mv (.r rfl)) rfl ?_
              refine WO.val (.bin (.r rfl) (.r rfl) rfl) rfl ?_
              refine WO.val (.cvi Tryd.underlying53 Tryd.underlying2 (.r rfl) rfl) rfl ?_
              refine WO.val (.mki con_81 (.r rfl)) rfl ?_
              refine WO.val (.asg (.r rfl)) rfl ?_
              refine WO.val (.asg (.r rfl)) rfl ?_
              refine WO.nil ?_
              refine KQ.seq ?_
              refine WC.ret ?_
              exact KQ.thenR (KQ.fin rfl (.tmp rfl (.tmp rfl .nil)) (fun w hw => ⟨(_, 1), rfl, Sat.pureI (Nat.le_succ 1) hw.none⟩))
            · refine WC.skip ?_
              refine KQ.seq ?_
              refine WC.seq ?_
              refine WC.seq ?_
              refine WC.region ?_
              refine WO.val (.mv (.r rfl)) rfl ?_
              refine WO.val (.mv (.r rfl)) rfl ?_
              refine WO.gd rfl rfl rfl (fun h => (.mv (.r rfl))) ?_
              refine WO.gd rfl rfl rfl (fun h => (.mv (.r rfl))) ?_
              refine WO.gd rfl rfl rfl (fun h => (.bin (.g h rfl) (.g h rfl) rfl)) ?_
              refine WO.val (.and rfl rfl) rfl ?_
              refine WO.nil ?_
              refine KQ.seq ?_
              refine WC.cond rfl (fun c17 => ?_) (fun c17 => ?_)
              · refine WC.seq ?_
                refine WC.region ?_
                refine WO.val (.mv (.r rfl)) rfl ?_
                refine WO.val (.cvi Tryd.underlying53 Tryd.underlying2 (.r rfl) rfl) rfl ?_
                refine WO.val (.ng (.r rfl)) rfl ?_
                refine WO.val (.mki con_81 (.r rfl)) rfl ?_
                refine WO.val (.asg (.r rfl)) rfl ?_
                refine WO.val (.asg (.r rfl)) rfl ?_
                refine WO.nil ?_
                refine KQ.seq ?_
                refine WC.ret ?_
                exact KQ.thenR (KQ.fin rfl (.tmp rfl (.tmp rfl .nil)) (fun w hw => ⟨(_, 1), rfl, Sat.pureI (Nat.le_succ 1) hw.none⟩))
              · refine WC.skip ?_
                refine KQ.seq ?_
                refine WC.seq ?_
                refine WC.region ?_
                refine WO.val (.mv (.r rfl)) rfl ?_
                refine WO.val (.cvi Tryd.underlying53 Tryd.underlying2 (.r rfl) rfl) rfl ?_
                refine WO.val (.asg (.r rfl)) rfl ?_
                refine WO.nil ?_
                refine KQ.seq ?_
                refine WC.seq ?_
                refine WC.seq ?_
                refine WC.region ?_
                refine WO.val (.mv (.r rfl)) rfl ?_
                refine WO.nil ?_
                refine KQ.seq ?_
                refine WC.cond rfl (fun c18 => ?_) (fun c18 => ?_)
                · refine WC.region ?_
                  refine WO.val (.mv (.r rfl)) rfl ?_
                  refine WO.val (.ng (.r rfl)) rfl ?_
                  refine WO.val (.asg (.r rfl)) rfl ?_
                  refine WO.nil ?_
                  refine KQ.seq ?_
                  refine WC.seq ?_
                  refine WC.region ?_
                  refine WO.val (.mv (.r rfl)) rfl ?_
                  refine WO.val (.asg (.r rfl)) rfl ?_
                  refine WO.val (.asg (.r rfl)) rfl ?_
                  refine WO.nil ?_
                  refine KQ.seq ?_
                  refine WC.ret ?_
                  exact KQ.fin rfl (.tmp rfl (.tmp rfl .nil)) (fun w hw => ⟨(_, 0), rfl, Sat.pureI (Nat.zero_le 2) hw.none⟩)
                · refine WC.skip ?_
                  refine KQ.seq ?_
                  refine WC.seq ?_
                  refine WC.region ?_
                  refine WO.val (.mv (.r rfl)) rfl ?_
                  refine WO.val (.asg (.r rfl)) rfl ?_
                  refine WO.val (.asg (.r rfl)) rfl ?_
                  refine WO.nil ?_
                  refine KQ.seq ?_
                  refine WC.ret ?_
                  exact KQ.fin rfl (.tmp rfl (.tmp rfl .nil)) (fun w hw => ⟨(_, 0), rfl, Sat.pureI (Nat.zero_le 2) hw.none⟩)
          · exact absurd c15 (by decide)
/-! internal/strconv.Atoi -/
theorem atoiIn (s : List UInt8) (hs : 19 ≤ s.length) (hl : s.length ≤ 1048576) (w : World) : CP Tryd.prog 48 [str s] w (fun q : Int × Nat => .tuple #[.int .i64 q.1, errC q.2]) (fun q => [.pu (q.2 ≤ 2)]) := by
  refine enter Tryd.func48 rfl rfl rfl (Sat.start w) ?_
  simp only [mkL]
  refine WC.seq ?_
  refine WC.region ?_
  refine WO.val (.asg (.r rfl)) rfl ?_
  refine WO.val (.asg (.r rfl)) rfl ?_
  refine WO.nil ?_
  refine KQ.seq ?_
  refine WC.seq ?_
  refine WC.region ?_
  refine WO.val (.mv (.r rfl)) rfl ?_
  refine WO.val (.lenT Tryd.underlying9 (.r rfl)) rfl ?_
  refine WO.val (.asg (.r rfl)) rfl ?_
  refine WO.nil ?_
  refine KQ.seq ?_
  refine WC.seq ?_
  refine WC.seq ?_
  refine WC.region ?_
  refine WO.val (.mv (.r rfl)) rfl ?_
  refine WO.gd rfl rfl rfl (fun h => (.mv (.r rfl))) ?_
  refine WO.gd rfl rfl rfl (fun h => (.bin (.r rfl) (.g h rfl) rfl)) ?_
  refine WO.gd rfl rfl rfl (fun h => (.mv (.g h rfl))) ?_
  refine WO.gdN rfl rfl rfl (fun h => (.mv (.r rfl))) ?_
  refine WO.gdN rfl rfl rfl (fun h => (.bin (.g h rfl) (.r rfl) rfl)) ?_
  refine WO.gd rfl rfl rfl (fun h => (.andN h rfl rfl)) ?_
  refine WO.val (.and rfl rfl) rfl ?_
  refine WO.val (.mv (.r rfl)) rfl ?_
  refine WO.gd rfl rfl rfl (fun h => (.mv (.r rfl))) ?_
  refine WO.gdN rfl rfl rfl (fun h => (.mv (.r rfl))) ?_
  refine WO.gdN rfl rfl rfl (fun h => (.bin (.r rfl) (.g h rfl) rfl)) ?_
  refine WO.gdN rfl rfl rfl (fun h => (.mv (.g h rfl))) ?_
  refine WO.gdN rfl rfl rfl (fun h => (.mv (.r rfl))) ?_
  refine WO.gdN rfl rfl rfl (fun h => (.bin (.g h rfl) (.r rfl) rfl)) ?_
  refine WO.gdN rfl rfl rfl (fun h => (.andN h rfl rfl)) ?_
  refine WO.gd rfl rfl rfl (fun h => (.andN h rfl rfl)) ?_
  refine WO.val (.or rfl rfl) rfl ?_
  refine WO.nil ?_
  refine KQ.seq ?_
  refine WC.cond rfl (fun c1 => ?_) (fun c1 => ?_)
  · exact absurd c1 (by simp; omega)
  · refine WC.skip ?_
    refine KQ.seq ?_
    refine WC.seq ?_
    refine WC.region ?_
    refine WO.val (.mv (.r rfl)) rfl ?_
    refine WO.callP rfl ent_64 rfl (fun w hw => parseInt s hs hl w) fun q => ?_
    refine WO.fact (fun w hw => (Sat.pure1 hw).1) fun hq => ?_
    refine WO.drop ?_
    refine WO.val (.mv (.r rfl)) rfl ?_
    refine WO.val (.ext (.r rfl) rfl) rfl ?_
    refine WO.val (.ext (.r rfl) rfl) rfl ?_
    refine WO.val (.asg (.r rfl)) rfl ?_
    refine WO.val (.asg (.r rfl)) rfl ?_
    refine WO.nil ?_
    refine KQ.seq ?_
    refine WC.seq ?_
    refine WC.region ?_
    refine WO.val (.mv (.r rfl)) rfl ?_
    refine WO.val (.mv (.r rfl)) rfl ?_
    refine WO.val (.asg (.r rfl)) rfl ?_
    refine WO.val (.asg (.r rfl)) rfl ?_
    refine WO.nil ?_
    refine KQ.seq ?_
    refine WC.ret ?_
    exact KQ.fin rfl (.tmp rfl (.tmp rfl .nil)) (fun w hw => ⟨(_, q.2), rfl, Sat.pureI hq hw⟩)
/-! strconv.Atoi -/
theorem atoiLong (s : List UInt8) (hs : 19 ≤ s.length) (hl : s.length ≤ 1048576) (w : World) (hg : GL w) : CP Tryd.prog 31 [str s] w (fun q : Int × Value => .tuple #[.int .i64 q.1, q.2]) (fun q => [.pu (IsErr q.2)]) := by
  refine enter Tryd.func31 rfl rfl rfl (Sat.start w) ?_
  simp only [mkL]
  refine WC.seq ?_
  refine WC.region ?_
  refine WO.val (.asg (.r rfl)) rfl ?_
  refine WO.val (.asg (.r rfl)) rfl ?_
  refine WO.nil ?_
  refine KQ.seq ?_
  refine WC.seq ?_
  refine WC.region ?_
  refine WO.val (.mv (.r rfl)) rfl ?_
  refine WO.callP rfl ent_48 rfl (fun w hw => atoiIn s hs hl w) fun q => ?_
  refine WO.fact (fun w hw => (Sat.pure1 hw).1) fun hq => ?_
  refine WO.drop ?_
  refine WO.val (.mv (.r rfl)) rfl ?_
  refine WO.val (.ext (.r rfl) rfl) rfl ?_
  refine WO.val (.ext (.r rfl) rfl) rfl ?_
  refine WO.val (.asg (.r rfl)) rfl ?_
  refine WO.val (.asg (.r rfl)) rfl ?_
  refine WO.nil ?_
  refine KQ.seq ?_
  refine WC.seq ?_
  refine WC.seq ?_
  refine WC.region ?_
  refine WO.val (.mv (.r rfl)) rfl ?_
  refine WO.val (.neN ifc_50 (.r rfl) (errC_is q.2)) rfl ?_
  refine WO.nil ?_
  refine KQ.seq ?_
  refine WC.cond rfl (fun c1 => ?_) (fun c1 => ?_)
  · obtain ⟨n0, c⟩ := q
    rcases c with _ | c
    · cases c1
    dsimp only at hq
    refine WC.seq ?_
    refine WC.region ?_
    refine WO.val (.mv (.r rfl)) rfl ?_
    refine WO.val (.mv (.r rfl)) rfl ?_
    refine WO.val (.mv (.r rfl)) rfl ?_
    refine WO.callP rfl ent_49 rfl (fun w hw => toErr _ s 0 0 _ (by omega) (by omega) w (hg.mono hw)) fun n => ?_
    refine WO.val (.asg (.r rfl)) rfl ?_
    refine WO.val (.asg (.r rfl)) rfl ?_
    refine WO.nil ?_
    refine KQ.seq ?_
    refine WC.ret ?_
    exact KQ.thenR (KQ.fin rfl (.tmp rfl (.tmp rfl .nil)) (fun w hw => ⟨(_, _), rfl, Sat.pureI (.inr ⟨_, _, rfl⟩) hw⟩))
  · refine WC.skip ?_
    refine KQ.seq ?_
    refine WC.seq ?_
    refine WC.region ?_
    refine WO.val (.mv (.r rfl)) rfl ?_
    refine WO.val (.asg (.r rfl)) rfl ?_
    refine WO.val (.asg (.r rfl)) rfl ?_
    refine WO.nil ?_
    refine KQ.seq ?_
    refine WC.ret ?_
    exact KQ.fin rfl (.tmp rfl (.tmp rfl .nil)) (fun w hw => ⟨(_, _), rfl, Sat.pureI (.inl rfl) hw⟩)
/-! strconv.Atoi -/
theorem atoiFail (s : List UInt8) (hs : s.length ≤ 18) (h0 : Lib.atoi s = none) (w : World) (hg : GL w) : CP Tryd.prog 31 [str s] w (fun n : Nat => .tuple #[.int .i64 0, .iface 84 (.pointer (some ⟨n, 0, none⟩))]) (fun _ => []) := by
  refine enter Tryd.func31 rfl rfl rfl (Sat.start w) ?_
  simp only [mkL]
  refine WC.seq ?_
  refine WC.region ?_
  refine WO.val (.asg (.r rfl)) rfl ?_
  refine WO.val (.asg (.r rfl)) rfl ?_
  refine WO.nil ?_
  refine KQ.seq ?_
  refine WC.seq ?_
  refine WC.region ?_
  refine WO.val (.mv (.r rfl)) rfl ?_
  refine WO.callS rfl ent_48 rfl (fun w hw => atoiInFail s hs h0 w) ?_
  refine WO.val (.mv (.r rfl)) rfl ?_
  refine WO.val (.ext (.r rfl) rfl) rfl ?_
  refine WO.val (.ext (.r rfl) rfl) rfl ?_
  refine WO.val (.asg (.r rfl)) rfl ?_
  refine WO.val (.asg (.r rfl)) rfl ?_
  refine WO.nil ?_
  refine KQ.seq ?_
  refine WC.seq ?_
  refine WC.seq ?_
  refine WC.region ?_
  refine WO.val (.mv (.r rfl)) rfl ?_
  refine WO.val (.neN ifc_50 (.r rfl) (.inr ⟨_, _, rfl⟩)) rfl ?_
  refine WO.nil ?_
  refine KQ.seq ?_
  refine WC.cond rfl (fun c1 => ?_) (fun c1 => ?_)
  · refine WC.seq ?_
    refine WC.region ?_
    refine WO.val (.mv (.r rfl)) rfl ?_
    refine WO.val (.mv (.r rfl)) rfl ?_
    refine WO.val (.mv (.r rfl)) rfl ?_
    refine WO.callP rfl ent_49 rfl (fun w hw => toErr _ s 0 0 2 (.inr rfl) (by omega) w (hg.mono hw)) fun n => ?_
    refine WO.val (.asg (.r rfl)) rfl ?_
    refine WO.val (.asg (.r rfl)) rfl ?_
    refine WO.nil ?_
    refine KQ.seq ?_
    refine WC.ret ?_
    exact KQ.thenR (KQ.fin rfl (.tmp rfl (.tmp rfl .nil)) (fun w hw => ⟨n, rfl, hw⟩))
  · exact absurd c1 (by simp [isNil])

theorem atoiC (s : List UInt8) (hl : s.length ≤ 1048576) (w : World) (hg : GL w) : CP Tryd.prog 31 [str s] w (fun q : Int × Value => .tuple #[.int .i64 q.1, q.2]) (fun q => [.pu (IsErr q.2 ∧ (s.length ≤ 18 → (isNil q.2 = true → Lib.atoi s = some q.1) ∧ (isNil q.2 = false → Lib.atoi s = none)))]) := by
  by_cases h18 : s.length ≤ 18
  · cases h0 : Lib.atoi s with
    | none => exact Calls.mono (atoiFail s h18 h0 w hg) fun e w' ⟨n, he, hw⟩ => ⟨(0, _), he, Sat.pureI ⟨.inr ⟨_, _, rfl⟩, fun _ => ⟨fun h => (by cases h), fun _ => rfl⟩⟩ hw⟩
    | some n =>
      refine (Tryd.strconv_Atoi ⟨s.toArray⟩ n h18 (by simpa using h0) w).mono ?_
      rintro e w' ⟨he, t, rfl⟩
      exact ⟨(n, .nilIface), he, Sat.pureI ⟨.inl rfl, fun _ => ⟨fun _ => rfl, fun h => (by cases h)⟩⟩ (sat_below (Lib.bytesWorld_below w 5 t))⟩
  · exact Calls.mono (atoiLong s (by omega) hl w hg) fun e w' ⟨q, he, hw⟩ => ⟨q, he, Sat.pureI ⟨(Sat.pure1 hw).1, fun h => absurd h h18⟩ (Sat.pure1 hw).2⟩

end Go.Proofs.YtfnaplhjkapghaaDoor
