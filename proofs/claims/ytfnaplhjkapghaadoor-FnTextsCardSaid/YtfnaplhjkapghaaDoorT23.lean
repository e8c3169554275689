/- The tied card of the law FnExactReadChangeText is proved: for every text the law returns true. Conditions: none beyond the card itself. -/
import Derived.Test.YtfnaplhjkapghaaDoorCards
import Derived.Test.YtfnaplhjkapghaaDoorTie
import Derived.SevenTiedAt
import Derived.Test.YtfnaplhjkapghaaDoorT22
import Derived.Test.YtfnaplhjkapghaaDoorProg
set_option linter.unusedVariables false
set_option linter.unusedSimpArgs false
set_option maxRecDepth 4000
namespace Go.Proofs.YtfnaplhjkapghaaDoor
open Go Go.RowKit Go.Proofs.YtfnaplhjkapghaaDoor.Sp


open Go
theorem fnExactReadChangeText_card : Rows.FnExactReadChangeTextCardSaid :=
  Claim7.holds_tied_plain_at .later [] [.data, .data, .data, .data, .sentinel, .sentinel, .pinned] true (true, "fe1d33bb9a52f86a0db8b6b9e6c45c0c1508b07a9eaa90c13435973137f24624") true
    fnExactReadChangeText_holds (fun _ h => by cases h) (by kernel_rfl) (fun _ h => by cases h) fnExactReadChangeText_row_tie rfl ⟨rfl, rfl⟩ (by kernel_rfl) rfl
    (fun f fn hf hfn => by
      obtain rfl : f = 3 := Option.some.inj ((show Tryd.prog.funcNamed "loop.example/g00083/laws.FnExactReadChangeText" = some 3 by kernel_rfl).symm.trans hf) |>.symm
      obtain rfl : fn = Tryd.f3 := (Option.some.inj (Tryd.func3.symm.trans hfn)).symm
      exact ⟨by kernel_rfl, fun j t ht => by
        rw [Tryd.params3] at ht
        have h3 : t = 9 := by
          rcases j with _ | j
          · simpa using ht.symm
          · simp at ht
        subst h3
        exact (show Tryd.prog.wantsStandIn 9 = false by kernel_rfl)⟩)
    (by kernel_rfl)
#print axioms fnExactReadChangeText_card

end Go.Proofs.YtfnaplhjkapghaaDoor
