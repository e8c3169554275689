/- Structs of numbers and texts compared. -/
import Derived.Test.YtfnaplhjkapghaaDoorJn
import Derived.ChangeKeysEq
set_option linter.unusedVariables false
set_option linter.unusedSimpArgs false
namespace Go.Proofs.YtfnaplhjkapghaaDoor.Sp
open Go Go.RowKit
variable {P : Program}
theorem eqf_cons {w : World} {d : Nat} {f : Field} {fs : List Field} {xs ys : Array Value} {a b : Value} {r q : Bool} (hn : (f.name == "_") = false) (ha : (part f.type xs f.offset).run P w = .ok a w) (hb : (part f.type ys f.offset).run P w = .ok b w)
    (he : (Op.equalIn d f.type a b).run P w = .ok r w) (ht : (Op.eqFields d xs ys fs).run P w = .ok q w) : (Op.eqFields d xs ys (f :: fs)).run P w = .ok (r && q) w := by
  have hn' : f.name ≠ "_" := by simpa using hn
  unfold Op.eqFields
  rw [if_pos hn']
  simp only [Sem.run_bind, ha, hb, he, Result.andThen_ok]
  cases r
  · simp
  · simpa using ht
theorem eqf_nil {w : World} {d : Nat} {xs ys : Array Value} : (Op.eqFields d xs ys []).run P w = .ok true w := by simp [Op.eqFields]
def sig (f : Field) : Bool × TypeId × Nat := (f.name == "_", f.type, f.offset)
theorem sig_cons {fs : List Field} {x : Bool × TypeId × Nat} {r : List (Bool × TypeId × Nat)} (h : fs.map sig = x :: r) : ∃ f fs', fs = f :: fs' ∧ sig f = x ∧ fs'.map sig = r := by
  cases fs with
  | nil => cases h
  | cons f fs' => simp only [List.map_cons, List.cons.injEq] at h; exact ⟨f, fs', rfl, h.1, h.2⟩
theorem sig_nil {fs : List Field} (h : fs.map sig = []) : fs = [] := by cases fs with | nil => rfl | cons _ _ => cases h
/-- what the fields' pairs come to, field by field -/
inductive EqL (P : Program) (xs ys : Array Value) : List (Bool × TypeId × Nat) → Bool → Prop
  | nil : EqL P xs ys [] true
  | cons {t : TypeId} {o : Nat} {a b : Value} {r q : Bool} {l : List (Bool × TypeId × Nat)} (hp : P.plainKey t = true) (ha : xs[o]? = some a) (hb : ys[o]? = some b) (he : ∀ w d, (Op.equalIn (d + 1) t a b).run P w = .ok r w) (k : EqL P xs ys l q) : EqL P xs ys ((false, t, o) :: l) (r && q)
theorem EqL.run {xs ys : Array Value} {l : List (Bool × TypeId × Nat)} {b : Bool} (h : EqL P xs ys l b) : ∀ {fs : List Field}, fs.map sig = l → ∀ w, (Op.eqFields 9999 xs ys fs).run P w = .ok b w := by
  induction h with
  | nil => intro fs hf w; rw [sig_nil hf]; exact eqf_nil
  | cons hp ha hb he k ih =>
    intro fs hf w
    obtain ⟨f, fs', rfl, hs, hr⟩ := sig_cons hf
    simp only [sig, Prod.mk.injEq] at hs
    obtain ⟨h1, rfl, rfl⟩ := hs
    exact eqf_cons h1 (run_part_plain _ hp ha) (run_part_plain _ hp hb) (he w 9998) (ih hr w)
theorem eql_int {t : TypeId} {k : IntKind} (h : P.underlying t = some (.int k)) (a b : Int) : ∀ w d, (Op.equalIn (d + 1) t (.int k a) (.int k b)).run P w = .ok (a == b) w := fun w d => run_equalIn_int w d t k k a b h
theorem eql_str {t : TypeId} (h : P.underlying t = some .string) (a b : List UInt8) : ∀ w d, (Op.equalIn (d + 1) t (str a) (str b)).run P w = .ok (a == b) w := fun w d => by
  have := run_equalIn_string (P := P) w d t ⟨a.toArray⟩ ⟨b.toArray⟩ h
  rw [ByteArray.toList_mk, ByteArray.toList_mk] at this
  exact this
theorem eql_bool {t : TypeId} (h : P.underlying t = some .bool) (a b : Bool) : ∀ w d, (Op.equalIn (d + 1) t (.bool a) (.bool b)).run P w = .ok (a == b) w := fun w d => run_equalIn_bool w d t a b h
end Go.Proofs.YtfnaplhjkapghaaDoor.Sp
