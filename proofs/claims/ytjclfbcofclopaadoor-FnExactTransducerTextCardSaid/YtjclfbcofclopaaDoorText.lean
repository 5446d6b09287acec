/- Numbers as texts: the program's 'text' by the library's contract. The condition 'Glob': the library's table of powers of ten holds what the program's start lays. -/
import Derived.Test.YtjclfbcofclopaaDoorShelf
import Derived.Test.YtjclfbcofclopaaDoorWWords
import Derived.WalkKit
import Derived.Lib.AppendIntMem
import Derived.Lib.LaidTab
import Derived.Lib.Hide
import Derived.KernelRfl
namespace Go.Proofs.YtjclfbcofclopaaDoor.Txt
open Go.RowKit Go.Sort Go.Proofs.YtjclfbcofclopaaDoorW.PrintWords
/-- The library's table of the powers of ten. -/
def Glob (w : World) : Prop := Lib.TabIs Tryd.prog w "internal/strconv.uint64pow10" .u64 Lib.pow10Tab
theorem glob_below {w w' : World} (h : Glob w) (hb : Below w.heap.size w w') : Glob w' := Lib.tabBelow_of_tabIs h w' hb
theorem below_grow (w : World) (k : Nat) (os : Array Obj) : Below w.heap.size w (grow (w.drewN k) os) :=
  ⟨rfl, rfl, rfl, by simp [grow], fun i hi => by simp [grow, Array.getElem?_append_left hi]⟩
def impl_text.f (a0 : Int) : Option ByteArray := if -9223372036854775808 ≤ a0 ∧ a0 ≤ 9223372036854775807 then some ⟨(Lib.itoa a0).toArray⟩ else none
theorem impl_text.calls (a0 : Int) (r : ByteArray) (w : World) (hG : Glob w) (h : impl_text.f a0 = some r) :
    Calls Tryd.prog 111 #[.int .i64 a0] w fun e w' => e = .returned (.string r) ∧ Below w.heap.size w w' := by
  unfold impl_text.f at h
  split at h
  · rename_i hb
    obtain rfl := Option.some.inj h
    have C := (Tryd.strconv_FormatInt_10 a0 hb.1 hb.2 w hG)
    clear h hb hG
    go_enter Tryd.func111, Tryd.ntmps111
    go_wp2_with (go_at_call 143; refine C.mono ?_; rintro e w' ⟨rfl, k, os, rfl⟩)
    go_ret
    exact ⟨rfl, below_grow _ _ _⟩
  · cases h
end Go.Proofs.YtjclfbcofclopaaDoor.Txt
