/- Slices that are owned: rows; append, make, literals; len, cutting. -/
import Derived.Test.YtfnaplhjkapghaaDoorMem
set_option linter.unusedVariables false
set_option linter.unusedSimpArgs false
namespace Go.Proofs.YtfnaplhjkapghaaDoor.Sp
open Go Go.RowKit
variable {P : Program} {N : Nat} {E : Env} {l0 : List Oper} {rest : List Oper} {L : Slots} {Γ : List Asn} {Q : Exit → Act → World → Prop}
variable {d : Nat} {ty : TypeId} {pos : String} {af : Array Edge} {v : Value}
structure RowIs (n : Nat) (v : Value) (m : Nat) (cs : List Value) (g cap : Nat) (cur : List Value) : Prop where
  hv : v = .slice (some ⟨g, 0, none⟩) m cap
  le : m ≤ cap
  hc : cap ≤ maxLen
  sz : cur.length = cap * n
  tk : cur.take (m * n) = cs
/-- v is a slice of m elements of n cells each, which are cs; it owns its array, from its begin on -/
def Row (T n : Nat) (v : Value) (m : Nat) (cs : List Value) : Asn :=
  .or (.pu (v = .slice none 0 0 ∧ m = 0 ∧ cs = []))
      (.ex fun p : Nat × Nat × List Value => .star (.pu (RowIs n v m cs p.1 p.2.1 p.2.2)) (.blk p.1 (.cells p.2.2.toArray T (0, 0))))
theorem Sat.or1 {w : World} {A B : Asn} (h : Sat E w (.or A B :: Γ)) : Sat E w (A :: Γ) ∨ Sat E w (B :: Γ) := by
  obtain ⟨F, ⟨F1, F2, hs, a, r⟩, hF⟩ := h.own
  rcases a with a | a
  · exact .inl ⟨h.os, h.tape, h.output, h.old, F, ⟨F1, F2, hs, a, r⟩, hF⟩
  · exact .inr ⟨h.os, h.tape, h.output, h.old, F, ⟨F1, F2, hs, a, r⟩, hF⟩
theorem Sat.orL {w : World} {A B : Asn} (h : Sat E w (A :: Γ)) : Sat E w (.or A B :: Γ) := h.mono1 fun _ h => .inl h
theorem Sat.orR {w : World} {A B : Asn} (h : Sat E w (B :: Γ)) : Sat E w (.or A B :: Γ) := h.mono1 fun _ h => .inr h
theorem Sat.row1 {w : World} {T n m : Nat} {cs : List Value} (h : Sat E w (Row T n v m cs :: Γ)) :
    ((v = .slice none 0 0 ∧ m = 0 ∧ cs = []) ∧ Sat E w Γ) ∨ ∃ g cap cur, RowIs n v m cs g cap cur ∧ Sat E w (.blk g (.cells cur.toArray T (0, 0)) :: Γ) := by
  rcases h.or1 with h | h
  · exact .inl h.pure1
  · obtain ⟨⟨g, cap, cur⟩, h⟩ := h.ex1
    obtain ⟨hr, h⟩ := h.star1.pure1
    exact .inr ⟨g, cap, cur, hr, h⟩
theorem Sat.rowI {w : World} {T n m g cap : Nat} {cs cur : List Value} (hr : RowIs n v m cs g cap cur) (h : Sat E w (.blk g (.cells cur.toArray T (0, 0)) :: Γ)) : Sat E w (Row T n v m cs :: Γ) :=
  Sat.orR (Sat.exI (g, cap, cur) (Sat.starI (Sat.pureI hr h)))
theorem Sat.rowN {w : World} {T n : Nat} (h : Sat E w Γ) : Sat E w (Row T n (.slice none 0 0) 0 [] :: Γ) := Sat.orL (Sat.pureI ⟨rfl, rfl, rfl⟩ h)
/-- what the row's cells are in the world -/
theorem Sat.rowHas {w : World} {T n m : Nat} {cs : List Value} (h : Sat E w (Row T n v m cs :: Γ)) : cs.length = m * n ∧ ∃ A c, v = .slice A m c ∧ m ≤ c ∧ c ≤ maxLen ∧ ∀ ad, A = some ad → ad.off = 0 ∧ ad.spot = none ∧ Has w ad cs := by
  rcases h.row1 with ⟨⟨rfl, rfl, rfl⟩, _⟩ | ⟨g, cap, cur, hr, hs⟩
  · exact ⟨by simp, none, 0, rfl, Nat.le_refl _, by simp [maxLen], fun _ e => by cases e⟩
  · have hlen : cs.length = m * n := by rw [← hr.tk, List.length_take, hr.sz]; exact Nat.min_eq_left (Nat.mul_le_mul_right _ hr.le)
    refine ⟨hlen, some ⟨g, 0, none⟩, cap, hr.hv, hr.le, hr.hc, fun ad e => ?_⟩
    obtain rfl := Option.some.inj e
    exact ⟨rfl, rfl, has_blk hs.blk (by rw [List.drop_zero, hlen, hr.tk])⟩
theorem Sat.setRow {w : World} {g : Nat} {c c' : List Value} {T : TypeId} (h : Sat E w (.blk g (.cells c.toArray T (0, 0)) :: Γ)) : Sat E (w.setRow g c'.toArray) (.blk g (.cells c'.toArray T (0, 0)) :: Γ) :=
  h.turn rfl rfl rfl (setRow_heap w g _ _ T _ h.blk) (fun b hb => setRow_other w g b _ hb) (by simp [World.setRow])
theorem run_append_row {w : World} {T t n b m k c : Nat} {z : Value} {cs news : List Value} {a : Addr} (hT : Sli P t T n b z) (h : Sat E w (Row T n v m cs :: Γ)) (hl : news.length = k * n) (hnews : Has w a news) (h1 : ∀ u ∈ news, u.oneCell' = true)
    (h63 : m + k ≤ maxLen) (hbytes : (m + k) * b ≤ 140737488355328) : ∃ v' w', (Builtin.append_ #[t, t] ty #[v, .slice (some a) k c]).run P w = .ok v' w' ∧ Sat E w' (Row T n v' (m + k) (cs ++ news) :: Γ) := by
  obtain ⟨i, ht, hi, rfl, rfl, hz, hzs, hsz⟩ := hT
  have hsmall : m + k ≤ 9223372036854775807 := by simp only [maxLen] at h63; omega
  rcases h.row1 with ⟨⟨rfl, rfl, rfl⟩, hs⟩ | ⟨g, cap, cur, hr, hs⟩
  · by_cases hk : k = 0
    · subst hk
      have hn : news = [] := List.eq_nil_of_length_eq_zero (by simpa using hl)
      subst hn
      refine ⟨.slice none 0 0, w, ?_, Sat.rowN hs⟩
      simp [Builtin.append_, run_underlying ht, sizeOf, typeInfo, hi, Builtin.lenOf, Builtin.firstCells, loadCells, loadCellsFrom]
    · have hr := run_append_nil (P := P) w t ty T i z ht hi hz a k c news hl hnews (by omega) (by omega) (by have hb := hbytes; simp only [Nat.zero_add] at hb; omega)
      refine ⟨_, _, hr, ?_⟩
      have hge := grownCap_ge w k 0 T
      have hcm : grownCap w k 0 T ≤ maxLen := grownCap_le_maxLen w k 0 T (by simpa using h63)
      refine Sat.rowI (g := w.heap.size) (cap := grownCap w k 0 T) (cur := news ++ (Builtin.zeroCells z.cells (grownCap w k 0 T - k)).toList) ⟨by simp, by simpa using hge, hcm, ?_, by simp [← hl]⟩ ?_
      · have := size_zeroCells z.cells (grownCap w k 0 T - k)
        have hq := (Array.length_toList (xs := Builtin.zeroCells z.cells (grownCap w k 0 T - k))).trans this; rw [List.length_append, hq, hzs, hl, ← Nat.add_mul]; congr 1; omega
      · have := (hs.drew).alloc (.cells (news.toArray ++ Builtin.zeroCells z.cells (grownCap w k 0 T - k)) T)
        have e : (news ++ (Builtin.zeroCells z.cells (grownCap w k 0 T - k)).toList).toArray = news.toArray ++ Builtin.zeroCells z.cells (grownCap w k 0 T - k) := by simp
        rw [e]; exact this
  · have hlen : cs.length = m * i.size := by rw [← hr.tk, List.length_take, hr.sz]; exact Nat.min_eq_left (Nat.mul_le_mul_right _ hr.le)
    obtain ⟨rfl, hle, hcap, hcs, htk⟩ := hr
    by_cases hroom : m + k ≤ cap
    · have hfit : m * i.size + news.length ≤ cur.toArray.size := by rw [List.size_toArray, hl, hcs, ← Nat.add_mul]; exact Nat.mul_le_mul_right _ hroom
      have hrun := run_append_room (P := P) w t ty T i ht hi g m cap cur.toArray hs.blk a k c news hl hnews h1 hroom hfit
      refine ⟨_, _, hrun, ?_⟩
      simp only [List.toList_toArray] at *
      refine Sat.rowI ⟨rfl, hroom, hcap, ?_, ?_⟩ hs.setRow
      · simp only [List.length_append, List.length_take, List.length_drop]
        simp at hfit
        omega
      · have : (m + k) * i.size = (cs ++ news).length := by rw [List.length_append, hlen, hl, Nat.add_mul]
        rw [this, htk]
        exact List.take_left
    · have holds : ∀ j u, cs[j]? = some u → w.cell? ((⟨g, 0, none⟩ : Addr).add j) = some u := has_blk hs.blk (by rw [List.drop_zero, hlen, htk])
      have hrun := run_append_grow (P := P) w t ty T i z ht hi hz ⟨g, 0, none⟩ m cap cs hlen holds a k c news hl hnews (by omega) (by omega) (growslice_fits (by omega) hbytes)
      refine ⟨_, _, hrun, ?_⟩
      have hge := grownCap_ge w (m + k) cap T
      have hcm : grownCap w (m + k) cap T ≤ maxLen := grownCap_le_maxLen w (m + k) cap T h63
      refine Sat.rowI (g := w.heap.size) (cap := grownCap w (m + k) cap T) (cur := cs ++ news ++ (Builtin.zeroCells z.cells (grownCap w (m + k) cap T - (m + k))).toList) ⟨rfl, hge, hcm, ?_, ?_⟩ ?_
      · have := size_zeroCells z.cells (grownCap w (m + k) cap T - (m + k))
        have hq := (Array.length_toList (xs := Builtin.zeroCells z.cells (grownCap w (m + k) cap T - (m + k)))).trans this; rw [List.length_append, List.length_append, hq, hzs, hlen, hl, ← Nat.add_mul, ← Nat.add_mul]; congr 1; omega
      · have : (m + k) * i.size = (cs ++ news).length := by rw [List.length_append, hlen, hl, Nat.add_mul]
        rw [this]
        exact List.take_left
      · have := (hs.drop.drew).alloc (.cells (cs.toArray ++ news.toArray ++ Builtin.zeroCells z.cells (grownCap w (m + k) cap T - (m + k))) T)
        have e : (cs ++ news ++ (Builtin.zeroCells z.cells (grownCap w (m + k) cap T - (m + k))).toList).toArray = cs.toArray ++ news.toArray ++ Builtin.zeroCells z.cells (grownCap w (m + k) cap T - (m + k)) := by simp
        rw [e]; exact this
/-- append of what lies at an address; the row stands first -/
theorem WO.app {t T n b m k c : Nat} {z : Value} {cs news : List Value} {a : Addr} {x y : Operand} (hT : Sli P t T n b z) (hd : Nat.ble (d + 1) N = true) (hx : ev L x = some v) (hy : ev L y = some (.slice (some a) k c))
    (hl : news.length = k * n) (hnews : ∀ w, Sat E w (Row T n v m cs :: Γ) → Has w a news) (h1 : ∀ u ∈ news, u.oneCell' = true) (h63 : m + k ≤ maxLen) (hbytes : (m + k) * b ≤ 140737488355328)
    (h : ∀ v', WO P N E l0.toArray rest ((d, v') :: L) (Row T n v' (m + k) (cs ++ news) :: Γ) Q) :
    WO P N E l0.toArray (⟨some d, .call { callee := .builtin .append, args := #[x, y], argTypes := #[t, t] }, ty, pos, af, none⟩ :: rest) L (Row T n v m cs :: Γ) Q :=
  WO.stepE (val := fun v' : Value => v') (Γ' := fun v' => Row T n v' (m + k) (cs ++ news) :: Γ) hd (fun a' w hf hs => by
    obtain ⟨v', w', hr, hs'⟩ := run_append_row (ty := ty) (c := c) hT hs hl (hnews w hs) h1 h63 hbytes
    refine ⟨v', w', ?_, hs'⟩
    simp only [execOp, resolve, invoke, builtin, Sem.run_bind, Sem.run_pure, Result.andThen_ok, List.map_toArray, List.map_cons, List.map_nil, hf.ev hx, hf.ev hy, hr]) h
/-- a literal of a slice: one new block -/
def fillS (n : Nat) : List Value → List (Nat × Value) → Option (List Value)
  | cs, [] => some cs
  | cs, (i, v) :: r => if v.cells.size = n ∧ i * n + n ≤ cs.length then fillS n (cs.take (i * n) ++ v.cells.toList ++ cs.drop (i * n + n)) r else none
theorem Val.len {T e n b : Nat} {z : Value} {x : Operand} {A : Option Addr} {m c : Nat} (hS : Sli P T e n b z) (hx : Is L x (.slice A m c)) : Val P N E L Γ (.call { callee := .builtin .len, args := #[x], argTypes := #[T] }) (.int .i64 m) :=
  fun _ _ _ _ a w hf _ => by
    have hT := hS.choose_spec.1
    simp [execOp, resolve, invoke, builtin, Sem.run_bind, Sem.run_pure, Result.andThen_ok, hf.is hx, Builtin.len_, run_underlying hT, goInt]
theorem Val.lenS {T : TypeId} {x : Operand} {s : ByteArray} (hT : P.underlying T = some .string) (hx : Is L x (.string s)) : Val P N E L Γ (.call { callee := .builtin .len, args := #[x], argTypes := #[T] }) (.int .i64 s.size) :=
  fun _ _ _ _ a w hf _ => by
    simp [execOp, resolve, invoke, builtin, Sem.run_bind, Sem.run_pure, Result.andThen_ok, hf.is hx, Builtin.len_, run_underlying hT, goInt]
/-- a byte of a string -/
theorem Val.ixS {T : TypeId} {x y : Operand} {s : ByteArray} {ki : IntKind} {i : Int} {u : UInt8} (hT : P.underlying T = some .string) (hx : Is L x (.string s)) (hy : Is L y (.int ki i)) (h0 : 0 ≤ i) (hu : s[i.toNat]? = some u) : Val P N E L Γ (.index T x y) (.int .u8 u.toNat) :=
  fun _ _ _ _ a w hf _ => by
    simp [execOp, Sem.run_bind, hf.is hx, hf.is hy, Instr.index, asIntOf, run_underlying hT, Result.andThen, h0, hu]
end Go.Proofs.YtfnaplhjkapghaaDoor.Sp
