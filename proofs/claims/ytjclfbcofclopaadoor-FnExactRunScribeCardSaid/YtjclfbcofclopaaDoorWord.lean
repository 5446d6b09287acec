/- The program's 'ValidWord': strings.Trim at the letters a, b by the library's contract. -/
import Derived.Test.YtjclfbcofclopaaDoorTrim
import Derived.Test.YtjclfbcofclopaaDoorWWords
import Derived.WalkKit
import Derived.Deep.QuietTactic
import Derived.KernelRfl
import Derived.Below
import Derived.BigQuiet
import Derived.Lib.SlicesS
namespace Go.Proofs.YtjclfbcofclopaaDoor.Wd
open Go.RowKit Go.Shelf Go.Proofs.YtjclfbcofclopaaDoorW.PrintWords
/-- A text of at most 40 letters a, b. -/
def isWord (a : ByteArray) : Bool := decide (a.size ≤ 40) && (Lib.trimS a.data.toList [97, 98]).isEmpty
def impl_ValidWord.f (a0 : ByteArray) : Option Bool := if a0.size ≤ 9223372036854775807 then some (isWord a0) else none
theorem trim_empty {l : List UInt8} : (⟨l.toArray⟩ : ByteArray).toList.isEmpty = l.isEmpty := by
  rw [Lib.toList_data]
theorem impl_ValidWord.calls (a0 : ByteArray) (r : Bool) (w : World) (h : impl_ValidWord.f a0 = some r) :
    Calls Tryd.prog 67 #[.string a0] w fun e w' => e = .returned (.bool r) ∧ Below w.heap.size w w' := by
  unfold impl_ValidWord.f at h
  split at h
  · rename_i hb
    obtain rfl := Option.some.inj h
    clear h
    have C : ∀ W : World, Calls Tryd.prog 119 #[.string a0, .string ⟨#[97, 98]⟩] W (fun e w' => e = .returned (.string ⟨(Lib.trimS a0.data.toList [97, 98]).toArray⟩) ∧ Below W.heap.size W w') := fun W => Any.strings_Trim_laid Tryd.lays160 (by kernel_rfl) a0 ⟨#[97, 98]⟩ W hb (by decide) (ascii_of_all (by decide))
    unfold isWord
    have he := trim_empty (l := Lib.trimS a0.data.toList [97, 98])
    generalize (Lib.trimS a0.data.toList [97, 98]).isEmpty = ee at he ⊢
    generalize (⟨(Lib.trimS a0.data.toList [97, 98]).toArray⟩ : ByteArray) = rr at C he
    go_enter Tryd.func67, Tryd.ntmps67
    by_cases h4 : a0.size ≤ 40
    · have h4i : ((a0.size : Int) ≤ 40) = True := eq_true (by omega)
      go_wp2_with (go_at_call 119; refine (C _).mono ?_; rintro e w' ⟨rfl, hb⟩)
      go_ret
      exact ⟨by simp [h4], hb⟩
    · have h4i : ((a0.size : Int) ≤ 40) = False := eq_false (by omega)
      go_wp2_with (go_at_call 119; refine (C _).mono ?_; rintro e w' ⟨rfl, hb⟩)
      go_ret
      exact ⟨by simp [h4], Below.refl _ _⟩
  · cases h
end Go.Proofs.YtjclfbcofclopaaDoor.Wd
