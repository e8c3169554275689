/- A part of the proofs of this seat: contracts of the functions that its statements reach. -/
import Derived.Test.YtfnaplhjkapghaaDoorT8
import Derived.Test.YtfnaplhjkapghaaDoorProg
set_option linter.unusedVariables false
set_option linter.unusedSimpArgs false
set_option maxRecDepth 4000
namespace Go.Proofs.YtfnaplhjkapghaaDoor
open Go Go.RowKit Go.Proofs.YtfnaplhjkapghaaDoor.Sp
theorem ent_33 : Ent Tryd.prog 33 := ent_of Tryd.prog Tryd.func33 rfl rfl
theorem ent_34 : Ent Tryd.prog 34 := ent_of Tryd.prog Tryd.func34 rfl rfl

theorem Sp.WO.bs0 {P : Program} {N : Nat} {E : Env} {l0 rest : List Oper} {L : Slots} {Γ : List Asn} {Q : Exit → Act → World → Prop} {d : Nat} {ty : TypeId} {pos : String} {af : Array Edge} {t T n b : Nat} {z : Value} (hT : Sli P t T n b z) (hd : Nat.ble (d + 1) N = true)
    (k : ∀ g, WO P N E l0.toArray rest ((d, .slice (some ⟨g, 0, .none⟩) 0 0) :: L) (Row T n (.slice (some ⟨g, 0, .none⟩) 0 0) 0 [] :: Γ) Q) :
    WO P N E l0.toArray (⟨some d, .buildSlice t 0 #[], ty, pos, af, .none⟩ :: rest) L Γ Q :=
  WO.stepE (val := fun g => .slice (some ⟨g, 0, .none⟩) 0 0) (Γ' := fun g => Row T n (.slice (some ⟨g, 0, .none⟩) 0 0) 0 [] :: Γ) hd (fun a w hf hw => by
    obtain ⟨i, ht, hi, hn', hby, hz, hzs, hsz⟩ := hT
    refine ⟨w.heap.size, w.alloc (.cells #[] T), ?_, Sat.rowI (cur := []) (g := w.heap.size) (cap := 0) ⟨rfl, Nat.le_refl _, by simp, by simp, by simp [maxLen]⟩ (hw.alloc _)⟩
    simp [execOp, Instr.buildSlice, Sem.run_bind, run_underlying ht, Result.andThen, sizeOf, typeInfo, program, Sem.run, hi, Instr.fill, newRow]
    rw [show (Array.map (fun x => (default : Value)) (Array.range 0)) = #[] from Array.eq_empty_of_size_eq_zero (by simp)]) k
theorem pubC (s : List UInt8) (hs : s.length = 2) (w : World) (hg : GL w) : CP Tryd.prog 33 [str s, .int .i64 16, .int .i64 8] w (fun q : Int × Value => .tuple #[.int .u64 q.1, q.2]) (fun q => [.pu (IsErr q.2 ∧ (isNil q.2 = true → hexS s 0 = some q.1) ∧ (isNil q.2 = false → hexS s 0 = none))]) := by
  cases ho : hexS s 0 with
  | none => exact Calls.mono (pubN s hs w hg ho) fun e w' ⟨n, he, hw⟩ => ⟨(0, .iface 84 (.pointer (some ⟨n, 0, none⟩))), he, Sat.pureI ⟨.inr ⟨_, _, rfl⟩, fun h => (by cases h), fun _ => rfl⟩ hw⟩
  | some n => exact Calls.mono (pubS s hs w n ho) fun e w' ⟨he, hw⟩ => ⟨(n, .nilIface), he, Sat.pureI ⟨.inl rfl, fun _ => rfl, fun h => (by cases h)⟩ hw⟩
theorem dN_nn (b : UInt8) : 0 ≤ dN b := by
  unfold dN; split
  · rename_i h; simp at h; omega
  · split
    · rename_i h; simp at h; omega
    · omega
theorem hexS_two {s : List UInt8} {n : Int} (hs : s.length = 2) (h : hexS s 0 = some n) : 0 ≤ n ∧ n ≤ 255 := by
  match s, hs with
  | [x, y], _ =>
    have hx := dN_nn x; have hy := dN_nn y
    simp only [hexS] at h
    split at h
    · cases h
    · split at h
      · cases h
      · cases h; omega
theorem cvB2 {n : Int} (h0 : 0 ≤ n) (h1 : n ≤ 255) : Value.int .u8 (IntKind.u8.wrap n) = vB (UInt8.ofNat n.toNat) := by
  rw [u8_in h0 h1]
  have : (UInt8.ofNat n.toNat).toNat = n.toNat := by rw [UInt8.toNat_ofNat']; omega
  unfold vB; rw [this]; congr 1; omega
def decI : List UInt8 → Option (List UInt8)
  | [] => some []
  | b :: r => if ((b.toNat : Int) != 37) = true then (decI r).map (b :: ·) else
    match r with
    | x :: y :: r' => match hexS [x, y] 0 with
      | none => none
      | some n => (decI r').map (UInt8.ofNat n.toNat :: ·)
    | _ => none
theorem decI_cons (b : UInt8) (r : List UInt8) : decI (b :: r) = if ((b.toNat : Int) != 37) = true then (decI r).map (b :: ·) else
    match r with
    | x :: y :: r' => match hexS [x, y] 0 with
      | none => none
      | some n => (decI r').map (UInt8.ofNat n.toNat :: ·)
    | _ => none := by
  rcases r with _ | ⟨x, _ | ⟨y, r⟩⟩ <;> simp only [decI]
theorem two_at {s : List UInt8} {k : Nat} (h : k + 2 < s.length) : (s.take (k + 3)).drop (k + 1) = [s.getD (k + 1) 0, s.getD (k + 2) 0] := by
  rw [take_gD (show k + 2 < s.length from h), take_gD (show k + 1 < s.length by omega), List.drop_append_of_le_length (by simp; omega), List.drop_append_of_le_length (by simp; omega)]; simp
theorem dec_raw {s : List UInt8} {k : Nat} (hk : k < s.length) (h : (((s.getD k 0).toNat : Int) != 37) = true) : decI (s.drop k) = (decI (s.drop (k + 1))).map (s.getD k 0 :: ·) := by rw [drop_gD hk, decI_cons, if_pos h]
theorem dec_short {s : List UInt8} {k : Nat} (hk : k < s.length) (h : (((s.getD k 0).toNat : Int) != 37) = false) (h2 : s.length ≤ k + 2) : decI (s.drop k) = none := by
  rw [drop_gD hk, decI_cons, if_neg (by rw [h]; decide)]
  by_cases h3 : k + 1 < s.length
  · rw [drop_gD h3, List.drop_of_length_le (show s.length ≤ k + 1 + 1 by omega)]
  · rw [List.drop_of_length_le (show s.length ≤ k + 1 by omega)]
theorem dec_err {s : List UInt8} {k : Nat} (hk : k + 2 < s.length) (h : (((s.getD k 0).toNat : Int) != 37) = false) (h2 : hexS ((s.take (k + 3)).drop (k + 1)) 0 = none) : decI (s.drop k) = none := by
  rw [two_at hk] at h2
  rw [drop_gD (show k < s.length by omega), decI_cons, if_neg (by rw [h]; decide), drop_gD (show k + 1 < s.length by omega), drop_gD (show k + 1 + 1 < s.length by omega)]
  show (match hexS [_, _] 0 with | none => none | some n => _) = none
  rw [h2]
theorem dec_hex {s : List UInt8} {k : Nat} {n : Int} (hk : k + 2 < s.length) (h : (((s.getD k 0).toNat : Int) != 37) = false) (h2 : hexS ((s.take (k + 3)).drop (k + 1)) 0 = some n) : decI (s.drop k) = (decI (s.drop (k + 2 + 1))).map (UInt8.ofNat n.toNat :: ·) := by
  rw [two_at hk] at h2
  rw [drop_gD (show k < s.length by omega), decI_cons, if_neg (by rw [h]; decide), drop_gD (show k + 1 < s.length by omega), drop_gD (show k + 1 + 1 < s.length by omega)]
  show (match hexS [_, _] 0 with | none => none | some n => _) = _
  rw [h2]
theorem dec_none {s acc : List UInt8} {k : Nat} (hi : decI s = (decI (s.drop k)).map (acc ++ ·)) (h : decI (s.drop k) = none) : decI s = none := by rw [hi, h]; rfl
theorem dec_done {s acc : List UInt8} {k : Nat} (hi : decI s = (decI (s.drop k)).map (acc ++ ·)) (hk : s.length ≤ k) : decI s = some acc := by rw [hi, List.drop_of_length_le hk]; simp [decI]
def decV (s : List UInt8) (o : Option (List UInt8)) : Value := .tuple #[str (o.getD []), .bool (match o with | none => false | some t => codedL t == s)]
theorem pb_add3 {k : Nat} (h : k + 3 ≤ 9223372036854775807) : pbin .add (.int .i64 (k : Int)) (.int .i64 3) = some (.int .i64 ((k + 3 : Nat) : Int)) := by
  show some (Value.int .i64 (IntKind.i64.wrap ((k : Int) + 3))) = _
  rw [wrap_in (by omega) (by omega)]; rfl
theorem nn_t {u : Value} (h : (!isNil u) = true) : isNil u = false := by simpa using h
theorem nn_f {u : Value} (h : (!isNil u) = false) : isNil u = true := by simpa using h

/-! impl.decoded -/
theorem implDec (s : List UInt8) (hs : s.length ≤ 1048576) (w : World) (hg : GL w) : CV Tryd.prog 20 [str s] w (decV s (decI s)) := by
  refine CV.of ?_
  refine enter Tryd.func20 rfl rfl rfl (Sat.start w) ?_
  simp only [mkL]
  refine WC.seq ?_
  refine WC.region ?_
  refine WO.val (.asg (.r rfl)) rfl ?_
  refine WO.val (.asg (.r rfl)) rfl ?_
  refine WO.nil ?_
  refine KQ.seq ?_
  refine WC.seq ?_
  refine WC.region ?_
  refine WO.bs0 sli_28 rfl fun g0 => ?_
  refine WO.val (.asg (.r rfl)) rfl ?_
  refine WO.nil ?_
  refine KQ.seq ?_
  refine WC.seq ?_
  refine WC.seq ?_
  refine WC.region ?_
  refine WO.val (.asg (.r rfl)) rfl ?_
  refine WO.nil ?_
  refine KQ.seq ?_
  refine WC.block ?_
  refine WC.loop (σ := {p : Nat × List UInt8 × Value // p.1 ≤ s.length ∧ decI s = (decI (s.drop p.1)).map (p.2.1 ++ ·) ∧ p.2.1.length ≤ p.1}) (fun q0 => [(0, str s), (4, q0.1.2.2), (5, .int .i64 (q0.1.1 : Nat))]) (fun q0 => [Row 5 1 q0.1.2.2 q0.1.2.1.length (q0.1.2.1.map vB)]) (fun q0 => s.length - q0.1.1) (⟨(0, [], .slice (some ⟨g0, 0, none⟩) 0 0), by simp⟩) (by exact ⟨rfl, rfl, rfl, trivial⟩) (fun w hw => hw) ?_
  rintro ⟨⟨k, acc, v⟩, h1, hi, hn⟩
  dsimp only at h1 hi hn
  dsimp only
  refine WC.seq ?_
  refine WC.seq ?_
  refine WC.region ?_
  refine WO.val (.mv (.r rfl)) rfl ?_
  refine WO.val (.mv (.r rfl)) rfl ?_
  refine WO.val (.lenT Tryd.underlying9 (.r rfl)) rfl ?_
  refine WO.val (.bin (.r rfl) (.r rfl) rfl) rfl ?_
  refine WO.nil ?_
  refine KQ.seq ?_
  refine WC.cond rfl (fun c1 => ?_) (fun c1 => ?_)
  · have hk := lt_of_dec c1
    refine WC.skip ?_
    refine KQ.seq ?_
    refine WC.seq ?_
    refine WC.block ?_
    refine WC.seq ?_
    refine WC.seq ?_
    refine WC.region ?_
    refine WO.val (.mv (.r rfl)) rfl ?_
    refine WO.val (.mv (.r rfl)) rfl ?_
    refine WO.val (.ixT Tryd.underlying9 (.r rfl) (.r rfl) (gD hk)) rfl ?_
    refine WO.val (.bin (.r rfl) (.r rfl) rfl) rfl ?_
    refine WO.nil ?_
    refine KQ.seq ?_
    refine WC.cond rfl (fun c2 => ?_) (fun c2 => ?_)
    · refine WC.seq ?_
      refine WC.region ?_
      refine WO.val (.mv (.r rfl)) rfl ?_
      refine WO.val (.mv (.r rfl)) rfl ?_
      refine WO.val (.mv (.r rfl)) rfl ?_
      refine WO.val (.ixT Tryd.underlying9 (.r rfl) (.r rfl) (gD hk)) rfl ?_
      refine WO.bs (vs := [vB (s.getD k 0)]) (c := [vB (s.getD k 0)]) sli_28 rfl rfl rfl (by omega) (by intro v hv; simp at hv; subst hv; rfl) rfl (by omega) fun g => ?_
      refine WO.pull 1 (.s .z) ?_
      refine WO.app (k := 1) (c := 1) (news := [vB (s.getD k 0)]) sli_28 rfl rfl rfl rfl (fun w hw => has_blk (hw.blkAt (k := 1) rfl) rfl) (by intro u hu; simp at hu; subst hu; rfl) (by rw [maxLen_eq]; omega) (by omega) fun u => ?_
      refine WO.val (.asg (.r rfl)) rfl ?_
      refine WO.nil ?_
      refine KQ.seq ?_
      refine WC.exit ?_
      refine KQ.thenX (KQ.blockX (KQ.seq ?_))
      refine WC.region ?_
      refine WO.val (.mv (.r rfl)) rfl ?_
      refine WO.val (.bin (.r rfl) (.r rfl) (pb_inc (by omega))) rfl ?_
      refine WO.val (.asg (.r rfl)) rfl ?_
      refine WO.nil ?_
      refine KQ.again (⟨(k + 1, acc ++ [s.getD k 0], u), by dsimp only; omega, by dsimp only; rw [hi, dec_raw hk c2, map_app], by simp; omega⟩) (by dsimp only; omega) (by exact ⟨rfl, rfl, rfl, trivial⟩) (fun w hw => by have := hw.first; simpa [-List.getD_eq_getElem?_getD] using this)
    · refine WC.skip ?_
      refine KQ.seq ?_
      refine WC.seq ?_
      refine WC.seq ?_
      refine WC.region ?_
      refine WO.val (.mv (.r rfl)) rfl ?_
      refine WO.val (.bin (.r rfl) (.r rfl) (pb_add2 (by omega))) rfl ?_
      refine WO.val (.mv (.r rfl)) rfl ?_
      refine WO.val (.lenT Tryd.underlying9 (.r rfl)) rfl ?_
      refine WO.val (.bin (.r rfl) (.r rfl) rfl) rfl ?_
      refine WO.nil ?_
      refine KQ.seq ?_
      refine WC.cond rfl (fun c3 => ?_) (fun c3 => ?_)
      · have h3 := of_decide_eq_true c3
        refine WC.seq ?_
        refine WC.region ?_
        refine WO.val (.asg (.r rfl)) rfl ?_
        refine WO.val (.asg (.r rfl)) rfl ?_
        refine WO.nil ?_
        refine KQ.seq ?_
        refine WC.ret ?_
        exact KQ.thenR (KQ.blockR (KQ.thenR (KQ.thenR (KQ.blockR (KQ.thenR (KQ.fin rfl (.tmp rfl (.tmp rfl .nil)) (fun w hw => ⟨(), by rw [show decI s = none from dec_none hi (dec_short hk c2 (by omega))]; rfl, hw.none⟩)))))))
      · have hk2 := of_decide_eq_false c3
        have hk2 : k + 2 < s.length := by omega
        refine WC.skip ?_
        refine KQ.seq ?_
        refine WC.seq ?_
        refine WC.region ?_
        refine WO.val (.mv (.r rfl)) rfl ?_
        refine WO.val (.mv (.r rfl)) rfl ?_
        refine WO.val (.bin (.r rfl) (.r rfl) (pb_inc (by omega))) rfl ?_
        refine WO.val (.mv (.r rfl)) rfl ?_
        refine WO.val (.bin (.r rfl) (.r rfl) (pb_add3 (by omega))) rfl ?_
        refine WO.val (.slLH Tryd.underlying9 (.r rfl) (.r rfl) (.r rfl) (a := k + 1) (b := k + 3) (by omega) (by omega)) rfl ?_
        refine WO.callP rfl ent_33 rfl (fun w hw => pubC ((s.take (k + 3)).drop (k + 1)) (by rw [two_at hk2]; rfl) w (hg.mono hw)) fun q => ?_
        refine WO.fact (fun w hw => (Sat.pure1 hw).1) fun hq => ?_
        refine WO.drop ?_
        refine WO.val (.mv (.r rfl)) rfl ?_
        refine WO.val (.ext (.r rfl) rfl) rfl ?_
        refine WO.val (.ext (.r rfl) rfl) rfl ?_
        refine WO.val (.asg (.r rfl)) rfl ?_
        refine WO.val (.asg (.r rfl)) rfl ?_
        refine WO.nil ?_
        refine KQ.seq ?_
        refine WC.seq ?_
        refine WC.seq ?_
        refine WC.region ?_
        refine WO.val (.mv (.r rfl)) rfl ?_
        refine WO.val (.neN ifc_50 (.r rfl) hq.1) rfl ?_
        refine WO.nil ?_
        refine KQ.seq ?_
        refine WC.cond rfl (fun c4 => ?_) (fun c4 => ?_)
        · refine WC.seq ?_
          refine WC.region ?_
          refine WO.val (.asg (.r rfl)) rfl ?_
          refine WO.val (.asg (.r rfl)) rfl ?_
          refine WO.nil ?_
          refine KQ.seq ?_
          refine WC.ret ?_
          exact KQ.thenR (KQ.blockR (KQ.thenR (KQ.thenR (KQ.blockR (KQ.thenR (KQ.fin rfl (.tmp rfl (.tmp rfl .nil)) (fun w hw => ⟨(), by rw [show decI s = none from dec_none hi (dec_err hk2 c2 (hq.2.2 (nn_t c4)))]; rfl, hw.none⟩)))))))
        · have hx := hq.2.1 (nn_f c4)
          have hb := hexS_two (by rw [two_at hk2]; rfl) hx
          refine WC.skip ?_
          refine KQ.seq ?_
          refine WC.seq ?_
          refine WC.region ?_
          refine WO.val (.mv (.r rfl)) rfl ?_
          refine WO.val (.mv (.r rfl)) rfl ?_
          refine WO.val (.cvi Tryd.underlying53 Tryd.underlying5 (.r rfl) (cvB2 hb.1 hb.2)) rfl ?_
          refine WO.bs (vs := [vB (UInt8.ofNat q.1.toNat)]) (c := [vB (UInt8.ofNat q.1.toNat)]) sli_28 rfl rfl rfl (by omega) (by intro v hv; simp at hv; subst hv; rfl) rfl (by omega) fun g => ?_
          refine WO.pull 1 (.s .z) ?_
          refine WO.app (k := 1) (c := 1) (news := [vB (UInt8.ofNat q.1.toNat)]) sli_28 rfl rfl rfl rfl (fun w hw => has_blk (hw.blkAt (k := 1) rfl) rfl) (by intro u hu; simp at hu; subst hu; rfl) (by rw [maxLen_eq]; omega) (by omega) fun u => ?_
          refine WO.val (.asg (.r rfl)) rfl ?_
          refine WO.nil ?_
          refine KQ.seq ?_
          refine WC.region ?_
          refine WO.val (.mv (.r rfl)) rfl ?_
          refine WO.val (.bin (.r rfl) (.r rfl) (pb_add2 (by omega))) rfl ?_
          refine WO.val (.asg (.r rfl)) rfl ?_
          refine WO.nil ?_
          refine KQ.blockN (KQ.seq ?_)
          refine WC.region ?_
          refine WO.val (.mv (.r rfl)) rfl ?_
          refine WO.val (.bin (.r rfl) (.r rfl) (pb_inc (by omega))) rfl ?_
          refine WO.val (.asg (.r rfl)) rfl ?_
          refine WO.nil ?_
          refine KQ.again (⟨(k + 2 + 1, acc ++ [UInt8.ofNat q.1.toNat], u), by dsimp only; omega, by dsimp only; rw [hi, dec_hex hk2 c2 hx, map_app], by simp; omega⟩) (by dsimp only; omega) (by exact ⟨rfl, rfl, rfl, trivial⟩) (fun w hw => by have := hw.first; simpa [-List.getD_eq_getElem?_getD] using this)
  · refine WC.exit ?_
    refine KQ.thenX (KQ.thenX (KQ.blockX (KQ.seq ?_)))
    refine WC.seq ?_
    refine WC.quiet (by kernel_rfl) (by kernel_rfl) ?_
    refine WQ.val (.mv (.r rfl)) rfl ?_
    refine WQ.val (.cvT Tryd.underlying28 Tryd.underlying5 Tryd.underlying9 (.r rfl) (fun w hw => hw)) rfl ?_
    refine WQ.val (.mv (.r rfl)) rfl ?_
    refine WQ.val (.cvT Tryd.underlying28 Tryd.underlying5 Tryd.underlying9 (.r rfl) (fun w hw => hw)) rfl ?_
    refine WQ.callV rfl ent_34 rfl (fun w hw => implCoded acc (by omega) w) ?_
    refine WQ.val (.mv (.r rfl)) rfl ?_
    refine WQ.val (.eqS (.r rfl) (.r rfl)) rfl ?_
    refine WQ.val (.asg (.r rfl)) rfl ?_
    refine WQ.val (.asg (.r rfl)) rfl ?_
    refine WQ.nil ?_
    refine KQ.seq ?_
    refine WC.ret ?_
    exact KQ.fin rfl (.tmp rfl (.tmp rfl .nil)) (fun w hw => ⟨(), by rw [show decI s = some acc from dec_done hi (ge_of_dec c1)]; rfl, hw.none⟩)
end Go.Proofs.YtfnaplhjkapghaaDoor
