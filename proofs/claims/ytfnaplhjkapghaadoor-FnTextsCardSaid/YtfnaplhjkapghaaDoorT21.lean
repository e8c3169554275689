/- A part of the proofs of this seat: contracts of the functions that its statements reach. -/
import Derived.LaidLaws
import Derived.Test.YtfnaplhjkapghaaDoorT20
import Derived.Test.YtfnaplhjkapghaaDoorProg
set_option linter.unusedVariables false
set_option linter.unusedSimpArgs false
set_option maxRecDepth 4000
namespace Go.Proofs.YtfnaplhjkapghaaDoor
open Go Go.RowKit Go.Proofs.YtfnaplhjkapghaaDoor.Sp


theorem syn_of {W : World} (h : Lib.VarReads Tryd.prog W "strconv.ErrSyntax" Rows.laid_strconv_ErrSyntax) : ∃ ev, W.cell? ⟨1, 0, none⟩ = some ev ∧ (ev = .nilIface ∨ ∃ te pe, ev = .iface te pe) := by
  obtain ⟨g, t, cs, fuel, p, hg, ht, hv, hd⟩ := h
  have hg0 : Program.globalNamed Tryd.prog "strconv.ErrSyntax" = some 1 := by kernel_rfl
  obtain rfl := Option.some.inj (hg0.symm.trans hg)
  have hty : (Tryd.prog.globals[1]?).map (·.type) = some 50 := by kernel_rfl
  obtain rfl := Option.some.inj (hty.symm.trans ht)
  obtain ⟨f1, u, v, hcs, _, _⟩ := iface_of_trod ifcE hd
  have := World.var?_cell hg0 hv 0
  rw [Array.eq_one_of_toList hcs] at this
  exact ⟨.iface u v, by simpa using this, .inr ⟨u, v, rfl⟩⟩

theorem rng_of {W : World} (h : Lib.VarReads Tryd.prog W "strconv.ErrRange" Rows.laid_strconv_ErrRange) : ∃ ev, W.cell? ⟨2, 0, none⟩ = some ev ∧ (ev = .nilIface ∨ ∃ te pe, ev = .iface te pe) := by
  obtain ⟨g, t, cs, fuel, p, hg, ht, hv, hd⟩ := h
  have hg0 : Program.globalNamed Tryd.prog "strconv.ErrRange" = some 2 := by kernel_rfl
  obtain rfl := Option.some.inj (hg0.symm.trans hg)
  have hty : (Tryd.prog.globals[2]?).map (·.type) = some 50 := by kernel_rfl
  obtain rfl := Option.some.inj (hty.symm.trans ht)
  obtain ⟨f1, u, v, hcs, _, _⟩ := iface_of_trod ifcE hd
  have := World.var?_cell hg0 hv 0
  rw [Array.eq_one_of_toList hcs] at this
  exact ⟨.iface u v, by simpa using this, .inr ⟨u, v, rfl⟩⟩

theorem GL_of {W : World} (hsh : W.ShapedOpen Tryd.prog) (h : laidMet Tryd.prog Rows.fnExactReadChangeTextRow.laid W) : GL W :=
  ⟨Tryd.laysM146.s1_3 W hsh, syn_of (Lib.laidMet.reads h (by simp [Rows.fnExactReadChangeTextRow])), rng_of (Lib.laidMet.reads h (by simp [Rows.fnExactReadChangeTextRow])), tab_of (Lib.laidMet.reads h (by simp [Rows.fnExactReadChangeTextRow]))⟩

end Go.Proofs.YtfnaplhjkapghaaDoor
