/- THE TIED CARD of the law FnExactTransducerText. -/
import Derived.Test.YtjclfbcofclopaaDoorLawFnExactTransducerText
import Derived.Test.YtjclfbcofclopaaDoorCards
import Derived.Test.YtjclfbcofclopaaDoorTie
import Derived.SevenTiedAt
namespace Go.Proofs.YtjclfbcofclopaaDoor
open Go
theorem fnExactTransducerText_card : Rows.FnExactTransducerTextCardSaid :=
  Claim7.holds_tied_plain_at .later [] [.data, .data, .data] true (true, "8a5931706a185981572694e0b4848c9037f476c311f4a470f80e2a1a48309b41") true
    fnExactTransducerText_holds (fun _ h => by cases h) (by kernel_rfl) (fun _ h => by cases h) fnExactTransducerText_row_tie rfl ⟨rfl, rfl⟩ (by kernel_rfl) rfl
    (fun f fn hf hfn => by
      obtain rfl : f = 3 := Option.some.inj ((show Tryd.prog.funcNamed "loop.example/g01168/laws.FnExactTransducerText" = some 3 by kernel_rfl).symm.trans hf) |>.symm
      obtain rfl : fn = Tryd.f3 := (Option.some.inj (Tryd.func3.symm.trans hfn)).symm
      exact ⟨by kernel_rfl, fun j t ht => by
        rw [Tryd.params3] at ht
        have hm : t ∈ [25] := by simpa using Array.mem_of_getElem? ht
        have hall : ([25].all fun u => !Tryd.prog.wantsStandIn u) = true := by kernel_rfl
        exact (show Tryd.prog.wantsStandIn t = false by simpa using List.all_eq_true.1 hall t hm)⟩)
    (by kernel_rfl)
#print axioms fnExactTransducerText_card
end Go.Proofs.YtjclfbcofclopaaDoor
