/- A part of the proofs of this seat: contracts of the functions that its statements reach. -/
import Derived.Lib.LaidU8
import Derived.Lib.LaidTab
import Derived.Test.YtfnaplhjkapghaaDoorT19
import Derived.Test.YtfnaplhjkapghaaDoorProg
set_option linter.unusedVariables false
set_option linter.unusedSimpArgs false
set_option maxRecDepth 4000
namespace Go.Proofs.YtfnaplhjkapghaaDoor
open Go Go.RowKit Go.Proofs.YtfnaplhjkapghaaDoor.Sp


theorem tab_of {W : World} (h : Lib.VarReads Tryd.prog W "internal/strconv.uint64pow10" Rows.laid_internal_strconv_uint64pow10) : Lib.TabIs Tryd.prog W "internal/strconv.uint64pow10" .u64 Lib.pow10Tab := by
  obtain ⟨g, t, cs, fuel, p, hg, ht, hv, hd⟩ := h
  obtain ⟨g0, e0⟩ : ∃ g0, Program.globalNamed Tryd.prog "internal/strconv.uint64pow10" = some g0 := ⟨_, hg⟩
  have hty : (Program.globalNamed Tryd.prog "internal/strconv.uint64pow10").bind (fun g => (Tryd.prog.globals[g]?).map (·.type)) = some 113 := by kernel_rfl
  rw [hg] at hty
  simp only [Option.bind_some] at hty
  obtain rfl := Option.some.inj (hty.symm.trans ht)
  unfold Lib.TabIs
  rw [hv]
  have := Lib.cells_of_tab (P := Tryd.prog) (n := 20) (e := 53) (k := .u64) (zs := Lib.pow10Tab) (by kernel_rfl) (by kernel_rfl) (by kernel_rfl) (by kernel_rfl) hd
  rw [← this]

end Go.Proofs.YtfnaplhjkapghaaDoor
