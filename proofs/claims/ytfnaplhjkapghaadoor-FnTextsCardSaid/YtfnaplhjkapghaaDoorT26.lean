/- A part of the proofs of this seat: contracts of the functions that its statements reach. -/
import Derived.Test.YtfnaplhjkapghaaDoorT25
import Derived.Test.YtfnaplhjkapghaaDoorProg
set_option linter.unusedVariables false
set_option linter.unusedSimpArgs false
set_option maxRecDepth 4000
namespace Go.Proofs.YtfnaplhjkapghaaDoor
open Go Go.RowKit Go.Proofs.YtfnaplhjkapghaaDoor.Sp
theorem ent_39 : Ent Tryd.prog 39 := ent_of Tryd.prog Tryd.func39 rfl rfl
theorem ent_55 : Ent Tryd.prog 55 := ent_of Tryd.prog Tryd.func55 rfl rfl
theorem ent_56 : Ent Tryd.prog 56 := ent_of Tryd.prog Tryd.func56 rfl rfl

theorem Sp.Sat.curM2 {E : Env} {w : World} {Γ : List Asn} {X : Asn} {g : Nat} {A : Option Addr} {m c B B' : Nat} (hB : B ≤ B') (h : Sat E w (X :: Cur g A m c B :: Γ)) : Sat E w (X :: Cur g A m c B' :: Γ) := ((h.pull2).curM hB).pull2
theorem bldCur (A : Option Addr) (n c : Nat) : Bld Tryd.prog 62 [.slice none 0 0, .int .i64 0, .int .u64 0] [(0, 1), (1, 1), (2, 1)] := Bld.of (z' := .agg #[.slice none 0 0, .int .i64 0, .int .u64 0]) rfl (by kernel_rfl) (by kernel_rfl)

/-! (*spec.l1Cur).changeOf -/
theorem chgOfC {E : Env} {Γ : List Asn} {g : Nat} {A : Option Addr} {c B : Nat} {l : List UInt8} (hr : RdL E.H0 rB A l) (n : Nat) (hn : n ≤ 120) (hB : B + 1300 ≤ 1152921504606846976) :
    CF Tryd.prog E 40 [.pointer (some ⟨g, 0, none⟩), .int .i64 (n : Int)] (fun q : Value × List Part => q.1) (Cur g A l.length c B :: Γ) (fun q => .pu (q.2.length ≤ 1000 ∧ putsLe 2000 q.2) :: Row 36 3 q.1 q.2.length (q.2.flatMap cPart) :: Cur g A l.length c (B + 1300) :: Γ) := by
  intro w hw
  refine enter Tryd.func40 rfl rfl rfl hw ?_
  simp only [mkL]
  refine WC.seq ?_
  refine WC.region ?_
  refine WO.val (.asg (.r rfl)) rfl ?_
  refine WO.nil ?_
  refine KQ.seq ?_
  refine WC.seq ?_
  refine WC.region ?_
  refine WO.val (.asg (.r rfl)) rfl ?_
  refine WO.nil ?_
  refine KQ.seq ?_
  refine WC.seq ?_
  refine WC.region ?_
  refine WO.val (.mv (.r rfl)) rfl ?_
  refine WO.val (.bin (.r rfl) (.r rfl) (pb_sub (by omega) (by omega))) rfl ?_
  refine WO.val (.asg (.r rfl)) rfl ?_
  refine WO.nil ?_
  refine KQ.seq ?_
  refine WC.seq ?_
  refine WC.block ?_
  refine WC.loop (σ := {p : Nat × Int × List Part × Value // p.1 ≤ n ∧ p.2.2.1.length ≤ 2 * (n - p.1) ∧ putsLe (5 * (n - p.1)) p.2.2.1 ∧ 0 ≤ p.2.1 ∧ p.2.1 ≤ 120 + (n - p.1)}) (fun q => [(0, .pointer (some ⟨g, 0, none⟩)), (1, .int .i64 (q.1.1 : Nat)), (5, q.1.2.2.2), (6, .int .i64 q.1.2.1)]) (fun q => (Cur g A l.length c (B + 10 * (n - q.1.1)) :: Row 36 3 q.1.2.2.2 q.1.2.2.1.length (q.1.2.2.1.flatMap cPart) :: Γ)) (fun q => q.1.1) (⟨(n, 120 - n, [], .slice none 0 0), by simp [putsLe]; omega⟩) (by exact ⟨rfl, rfl, rfl, rfl, trivial⟩) (fun w hw => by have h9 := (Sat.rowN (T := 36) (n := 3) hw).pull2; simpa using h9) ?_
  rintro ⟨⟨m, room, ps, v⟩, hmn, hlen, hpu, hr0, hr1⟩
  dsimp only at hmn hlen hpu hr0 hr1
  dsimp only
  refine WC.seq ?_
  refine WC.seq ?_
  refine WC.region ?_
  refine WO.val (.mv (.r rfl)) rfl ?_
  refine WO.val (.bin (.r rfl) (.r rfl) rfl) rfl ?_
  refine WO.nil ?_
  refine KQ.seq ?_
  refine WC.cond rfl (fun c1 => ?_) (fun c1 => ?_)
  · have hm0 : 0 < m := by have := of_decide_eq_true c1; omega
    refine WC.skip ?_
    refine KQ.seq ?_
    refine WC.block ?_
    refine WC.seq ?_
    refine WC.seq ?_
    refine WC.region ?_
    refine WO.val (.mv (.r rfl)) rfl ?_
    refine WO.draw 0 .z rfl ent_55 rfl putD hr (by omega) fun x15 h15 => ?_
    refine WO.val (.asg (.r rfl)) rfl ?_
    refine WO.nil ?_
    refine KQ.seq ?_
    refine WC.seq ?_
    refine WC.region ?_
    refine WO.val (.mv (.r rfl)) rfl ?_
    refine WO.draw 0 .z rfl ent_37 rfl (oneD 3 (by decide)) hr (by omega) fun x17 h17 => ?_
    refine WO.val (.mv (.r rfl)) rfl ?_
    refine WO.gd rfl rfl rfl (fun h => (.mv (.r rfl))) ?_
    refine WO.gd rfl rfl rfl (fun h => (.lenT Tryd.underlying9 (.g h rfl))) ?_
    refine WO.gd rfl rfl rfl (fun h => (.mv (.r rfl))) ?_
    refine WO.gd rfl rfl rfl (fun h => (.bin (.g h rfl) (.g h rfl) rfl)) ?_
    refine WO.val (.and rfl rfl) rfl ?_
    refine WO.nil ?_
    refine KQ.seq ?_
    refine WC.join (σ := {p : Int × List Part × Value // p.2.1.length ≤ 2 * (n - m) + 1 ∧ putsLe (5 * (n - m) + 5) p.2.1 ∧ 0 ≤ p.1 ∧ p.1 ≤ 120 + (n - m)}) (fun q => [(0, .pointer (some ⟨g, 0, none⟩)), (1, .int .i64 (m : Nat)), (5, q.1.2.2), (6, .int .i64 q.1.1)]) (fun q => (Cur g A l.length c (B + 10 * (n - m) + 4) :: Row 36 3 q.1.2.2 q.1.2.1.length (q.1.2.1.flatMap cPart) :: Γ)) ?_ ?_
    · refine WC.cond rfl (fun c2 => ?_) (fun c2 => ?_)
      · refine WC.seq ?_
        refine WC.region ?_
        refine WO.val (.mv (.r rfl)) rfl ?_
        refine WO.val (.mv (.r rfl)) rfl ?_
        refine WO.val (.bld (c := cPart ⟨0, 0, x15⟩) (vs := [(2, str x15)]) bldPart rfl rfl) rfl ?_
        refine WO.pull 1 (.s .z) ?_
        refine WO.call rfl ent_56 rfl (addC ps v ⟨0, 0, x15⟩ (5 * (n - m)) (by omega) (by omega) hpu (by simp <;> omega)) fun u6 => ?_
        refine WO.val (.asg (.r rfl)) rfl ?_
        refine WO.nil ?_
        refine KQ.seq ?_
        refine WC.region ?_
        refine WO.val (.mv (.r rfl)) rfl ?_
        refine WO.val (.mv (.r rfl)) rfl ?_
        refine WO.val (.lenT Tryd.underlying9 (.r rfl)) rfl ?_
        refine WO.val (.bin (.r rfl) (.r rfl) (pb_sub (by omega) (by omega))) rfl ?_
        refine WO.val (.asg (.r rfl)) rfl ?_
        refine WO.nil ?_
        refine KQ.mid (⟨(room - x15.length, addP ps ⟨0, 0, x15⟩, u6), by have := addP_len ps ⟨0, 0, x15⟩; dsimp only; omega, putsLe_mono (by simp; omega) (addP_puts hpu), by simp at c2; dsimp only; omega, by dsimp only; omega⟩) (by exact ⟨rfl, rfl, rfl, rfl, trivial⟩) (fun w hw => (hw.pull 1 (.s .z)))
      · refine WC.skip ?_
        refine KQ.mid (⟨(room, ps, v), by dsimp only; omega, putsLe_mono (by omega) hpu, hr0, hr1⟩) (by exact ⟨rfl, rfl, rfl, rfl, trivial⟩) (fun w hw => hw)
    · rintro ⟨⟨room2, l2, v2⟩, h2b, h2c, h2d, h2e⟩
      dsimp only at h2b h2c h2d h2e
      try dsimp only
      refine WC.seq ?_
      refine WC.region ?_
      refine WO.val (.mv (.r rfl)) rfl ?_
      refine WO.draw 0 .z rfl ent_38 rfl (pickD 6 (by decide)) hr (by omega) fun x33 h33 => ?_
      refine WO.val (.bin (.r rfl) (.r rfl) (by unfold pickOk at h33; exact pb_add (by omega) (by omega))) rfl ?_
      refine WO.val (.asg (.r rfl)) rfl ?_
      refine WO.nil ?_
      refine KQ.seq ?_
      refine WC.seq ?_
      refine WC.seq ?_
      refine WC.region ?_
      refine WO.val (.mv (.r rfl)) rfl ?_
      refine WO.draw 0 .z rfl ent_37 rfl (oneD 6 (by decide)) hr (by omega) fun x36 h36 => ?_
      refine WO.nil ?_
      refine KQ.seq ?_
      refine WC.join (σ := {k : Int // 1 ≤ k ∧ k ≤ 200}) (fun kk => [(0, .pointer (some ⟨g, 0, none⟩)), (1, .int .i64 (m : Nat)), (5, v2), (6, .int .i64 room2), (8, .int .i64 kk.1)]) (fun kk => (Cur g A l.length c (B + 10 * (n - m) + 8) :: Row 36 3 v2 l2.length (l2.flatMap cPart) :: Γ)) ?_ ?_
      · refine WC.cond rfl (fun c3 => ?_) (fun c3 => ?_)
        · refine WC.region ?_
          refine WO.val (.mv (.r rfl)) rfl ?_
          refine WO.val (.asg (.r rfl)) rfl ?_
          refine WO.nil ?_
          refine KQ.mid (⟨(m : Nat), by omega, by omega⟩) (by exact ⟨rfl, rfl, rfl, rfl, rfl, trivial⟩) (fun w hw => hw)
        · refine WC.skip ?_
          refine KQ.mid (⟨1 + x33, by unfold pickOk at h33; omega, by unfold pickOk at h33; omega⟩) (by exact ⟨rfl, rfl, rfl, rfl, rfl, trivial⟩) (fun w hw => hw)
      · rintro ⟨k2, hk2, hk3⟩
        try dsimp only
        refine WC.seq ?_
        refine WC.seq ?_
        refine WC.region ?_
        refine WO.val (.mv (.r rfl)) rfl ?_
        refine WO.val (.mv (.r rfl)) rfl ?_
        refine WO.val (.bin (.r rfl) (.r rfl) rfl) rfl ?_
        refine WO.nil ?_
        refine KQ.seq ?_
        refine WC.join (σ := {k : Nat // 1 ≤ k ∧ k ≤ m}) (fun kk => [(0, .pointer (some ⟨g, 0, none⟩)), (1, .int .i64 (m : Nat)), (5, v2), (6, .int .i64 room2), (8, .int .i64 (kk.1 : Nat))]) (fun kk => (Cur g A l.length c (B + 10 * (n - m) + 8) :: Row 36 3 v2 l2.length (l2.flatMap cPart) :: Γ)) ?_ ?_
        · refine WC.cond rfl (fun c4 => ?_) (fun c4 => ?_)
          · refine WC.region ?_
            refine WO.val (.mv (.r rfl)) rfl ?_
            refine WO.val (.asg (.r rfl)) rfl ?_
            refine WO.nil ?_
            refine KQ.mid (⟨m, by omega, by omega⟩) (by exact ⟨rfl, rfl, rfl, rfl, slotI (by first | rfl | (dsimp only; omega)), trivial⟩) (fun w hw => hw)
          · refine WC.skip ?_
            refine KQ.mid (⟨k2.toNat, by omega, by have := of_decide_eq_false (by assumption : decide (k2 > ((m : Nat) : Int)) = false); omega⟩) (by exact ⟨rfl, rfl, rfl, rfl, slotI (by first | rfl | (dsimp only; omega)), trivial⟩) (fun w hw => hw)
        · rintro ⟨kk, hk4, hk5⟩
          try dsimp only
          refine WC.seq ?_
          refine WC.seq ?_
          refine WC.region ?_
          refine WO.val (.mv (.r rfl)) rfl ?_
          refine WO.draw 0 .z rfl ent_37 rfl (oneD 3 (by decide)) hr (by omega) fun x43 h43 => ?_
          refine WO.nil ?_
          refine KQ.seq ?_
          refine WC.cond rfl (fun c5 => ?_) (fun c5 => ?_)
          · refine WC.seq ?_
            refine WC.region ?_
            refine WO.val (.mv (.r rfl)) rfl ?_
            refine WO.val (.mv (.r rfl)) rfl ?_
            refine WO.val (.bld (c := cPart ⟨0, kk, []⟩) (vs := [(1, .int .i64 (kk : Nat))]) bldPart rfl rfl) rfl ?_
            refine WO.pull 1 (.s .z) ?_
            refine WO.call rfl ent_56 rfl (addC l2 v2 ⟨0, kk, []⟩ (5 * (n - m) + 5) (by omega) (by omega) h2c (by simp <;> omega)) fun u7 => ?_
            refine WO.val (.asg (.r rfl)) rfl ?_
            refine WO.nil ?_
            refine KQ.seq ?_
            refine WC.region ?_
            refine WO.val (.mv (.r rfl)) rfl ?_
            refine WO.val (.mv (.r rfl)) rfl ?_
            refine WO.val (.bin (.r rfl) (.r rfl) (pb_add (by omega) (by omega))) rfl ?_
            refine WO.val (.asg (.r rfl)) rfl ?_
            refine WO.nil ?_
            refine KQ.seq ?_
            refine WC.region ?_
            refine WO.val (.mv (.r rfl)) rfl ?_
            refine WO.val (.mv (.r rfl)) rfl ?_
            refine WO.val (.bin (.r rfl) (.r rfl) (pb_sub (by omega) (by omega))) rfl ?_
            refine WO.val (.asg (.r rfl)) rfl ?_
            refine WO.nil ?_
            refine KQ.blockN (KQ.again (⟨(m - kk, room2 + kk, addP l2 ⟨0, kk, []⟩, u7), by dsimp only; omega, by have := addP_len l2 ⟨0, kk, []⟩; dsimp only; omega, putsLe_mono (by simp; omega) (addP_puts h2c), by dsimp only; omega, by dsimp only; omega⟩) (by dsimp only; omega) (by exact ⟨rfl, slotI (by dsimp only; omega), rfl, rfl, trivial⟩) (fun w hw => ((hw.pull 1 (.s .z))).curM (by dsimp only; omega)))
          · refine WC.region ?_
            refine WO.val (.mv (.r rfl)) rfl ?_
            refine WO.val (.mv (.r rfl)) rfl ?_
            refine WO.val (.bld (c := cPart ⟨kk, 0, []⟩) (vs := [(0, .int .i64 (kk : Nat))]) bldPart rfl rfl) rfl ?_
            refine WO.pull 1 (.s .z) ?_
            refine WO.call rfl ent_56 rfl (addC l2 v2 ⟨kk, 0, []⟩ (5 * (n - m) + 5) (by omega) (by omega) h2c (by simp <;> omega)) fun u7 => ?_
            refine WO.val (.asg (.r rfl)) rfl ?_
            refine WO.nil ?_
            refine KQ.seq ?_
            refine WC.region ?_
            refine WO.val (.mv (.r rfl)) rfl ?_
            refine WO.val (.mv (.r rfl)) rfl ?_
            refine WO.val (.bin (.r rfl) (.r rfl) (pb_sub (by omega) (by omega))) rfl ?_
            refine WO.val (.asg (.r rfl)) rfl ?_
            refine WO.nil ?_
            refine KQ.blockN (KQ.again (⟨(m - kk, room2, addP l2 ⟨kk, 0, []⟩, u7), by dsimp only; omega, by have := addP_len l2 ⟨kk, 0, []⟩; dsimp only; omega, putsLe_mono (by simp; omega) (addP_puts h2c), by dsimp only; omega, by dsimp only; omega⟩) (by dsimp only; omega) (by exact ⟨rfl, slotI (by dsimp only; omega), rfl, rfl, trivial⟩) (fun w hw => ((hw.pull 1 (.s .z))).curM (by dsimp only; omega)))
  · have hm0 : m = 0 := by have := of_decide_eq_false c1; omega
    refine WC.exit ?_
    refine KQ.thenX (KQ.thenX (KQ.blockX (KQ.seq ?_)))
    refine WC.seq ?_
    refine WC.seq ?_
    refine WC.region ?_
    refine WO.val (.mv (.r rfl)) rfl ?_
    refine WO.draw 0 .z rfl ent_55 rfl putD hr (by omega) fun x59 h59 => ?_
    refine WO.val (.asg (.r rfl)) rfl ?_
    refine WO.nil ?_
    refine KQ.seq ?_
    refine WC.seq ?_
    refine WC.region ?_
    refine WO.val (.mv (.r rfl)) rfl ?_
    refine WO.draw 0 .z rfl ent_37 rfl (oneD 2 (by decide)) hr (by omega) fun x61 h61 => ?_
    refine WO.val (.mv (.r rfl)) rfl ?_
    refine WO.gd rfl rfl rfl (fun h => (.mv (.r rfl))) ?_
    refine WO.gd rfl rfl rfl (fun h => (.lenT Tryd.underlying9 (.g h rfl))) ?_
    refine WO.gd rfl rfl rfl (fun h => (.mv (.r rfl))) ?_
    refine WO.gd rfl rfl rfl (fun h => (.bin (.g h rfl) (.g h rfl) rfl)) ?_
    refine WO.val (.and rfl rfl) rfl ?_
    refine WO.nil ?_
    refine KQ.seq ?_
    refine WC.join (σ := {p : List Part × Value // p.1.length ≤ 900 ∧ putsLe 1000 p.1}) (fun q => [(0, .pointer (some ⟨g, 0, none⟩)), (5, q.1.2)]) (fun q => (Cur g A l.length c (B + 1210) :: Row 36 3 q.1.2 q.1.1.length (q.1.1.flatMap cPart) :: Γ)) ?_ ?_
    · refine WC.cond rfl (fun c6 => ?_) (fun c6 => ?_)
      · refine WC.region ?_
        refine WO.val (.mv (.r rfl)) rfl ?_
        refine WO.val (.mv (.r rfl)) rfl ?_
        refine WO.val (.bld (c := cPart ⟨0, 0, x59⟩) (vs := [(2, str x59)]) bldPart rfl rfl) rfl ?_
        refine WO.pull 1 (.s .z) ?_
        refine WO.call rfl ent_56 rfl (addC ps v ⟨0, 0, x59⟩ (5 * (n - m)) (by omega) (by omega) hpu (by simp <;> omega)) fun u8 => ?_
        refine WO.val (.asg (.r rfl)) rfl ?_
        refine WO.nil ?_
        refine KQ.mid (⟨(addP ps ⟨0, 0, x59⟩, u8), by have := addP_len ps ⟨0, 0, x59⟩; dsimp only; omega, putsLe_mono (by simp; omega) (addP_puts hpu)⟩) (by exact ⟨rfl, rfl, trivial⟩) (fun w hw => ((hw.pull 1 (.s .z))).curM (by omega))
      · refine WC.skip ?_
        refine KQ.mid (⟨(ps, v), by dsimp only; omega, putsLe_mono (by omega) hpu⟩) (by exact ⟨rfl, rfl, trivial⟩) (fun w hw => (hw).curM (by omega))
    · rintro ⟨⟨l3, v3⟩, h3a, h3b⟩
      dsimp only at h3a h3b
      try dsimp only
      refine WC.seq ?_
      refine WC.seq ?_
      refine WC.region ?_
      refine WO.val (.mv (.r rfl)) rfl ?_
      refine WO.draw 0 .z rfl ent_37 rfl (oneD 60 (by decide)) hr (by omega) fun x73 h73 => ?_
      refine WO.nil ?_
      refine KQ.seq ?_
      refine WC.cond rfl (fun c7 => ?_) (fun c7 => ?_)
      · refine WC.region ?_
        refine WO.val (.mv (.r rfl)) rfl ?_
        refine WO.val (.mv (.r rfl)) rfl ?_
        refine WO.draw 0 .z rfl ent_39 rfl partD hr (by omega) fun x76 h76 => ?_
        refine WO.bs (vs := [.agg (cPart x76).toArray]) (c := (cPart x76)) sli_22 rfl rfl rfl (by omega) (by intro v hv; obtain rfl := List.mem_singleton.1 hv; rfl) rfl (by omega) fun g9 => ?_
        refine WO.pull 2 (.s (.s .z)) ?_
        refine WO.app (k := 1) (c := 1) (news := (cPart x76)) sli_22 rfl rfl rfl rfl (fun w hw => has_blk (hw.blkAt (k := 1) rfl) rfl) (rPart.one (H := fun _ => .none) (x := x76) rfl) (by rw [maxLen_eq]; omega) (by omega) fun u9 => ?_
        refine WO.val (.asg (.r rfl)) rfl ?_
        refine WO.nil ?_
        refine KQ.seq ?_
        refine WC.seq ?_
        refine WC.region ?_
        refine WO.val (.mv (.r rfl)) rfl ?_
        refine WO.val (.asg (.r rfl)) rfl ?_
        refine WO.nil ?_
        refine KQ.seq ?_
        refine WC.ret ?_
        exact KQ.fin rfl (.tmp rfl .nil) (fun w hw => ⟨(u9, l3 ++ [x76]), rfl, Sat.pureI ⟨by simp; omega, fun p hp => by rcases List.mem_append.1 hp with hp | hp; exact Nat.le_trans (h3b p hp) (by omega); rw [List.mem_singleton.1 hp]; omega⟩ (by have h9 := ((hw.pull 1 (.s .z)).drop).curM2 (show B + 1210 + 2 + 20 ≤ B + 1300 by omega); simpa using h9)⟩)
      · refine WC.skip ?_
        refine KQ.seq ?_
        refine WC.seq ?_
        refine WC.region ?_
        refine WO.val (.mv (.r rfl)) rfl ?_
        refine WO.val (.asg (.r rfl)) rfl ?_
        refine WO.nil ?_
        refine KQ.seq ?_
        refine WC.ret ?_
        exact KQ.fin rfl (.tmp rfl .nil) (fun w hw => ⟨(v3, l3), rfl, Sat.pureI ⟨by dsimp only; omega, putsLe_mono (by omega) h3b⟩ (((hw.pull 1 (.s .z))).curM2 (by omega))⟩)
end Go.Proofs.YtfnaplhjkapghaaDoor
