/- The reference's ValidScribe, by its contract on a pointer. No condition. -/
import Derived.Test.YtnlcddjdedidlaaPScAx
import Derived.WalkSpells
import Derived.Lib.Hide
namespace Go.Proofs.Ytnlcddjdedidlaa.PScA
open Go.RowKit Go.Proofs.YtnlcddjdedidlaaW.PrintWords Go.Proofs.YtnlcddjdedidlaaW.PrintLast Go.Proofs.YtnlcddjdedidlaaW.PrintMore Go.Proofs.Ytnlcddjdedidlaa.Sc
def spec_ValidScribe.f (k : Nat) (l0_0 : List Bool) (l0_1 : List S49) (l0_2 : List S50) : Option Bool := spec_l07Ok.f k l0_0 l0_1 l0_2
theorem spec_ValidScribe.mono : ∀ a0 a1 a2 k, LeO (spec_ValidScribe.f k a0 a1 a2) (spec_ValidScribe.f (k + 1) a0 a1 a2) := fun _ _ _ k => spec_l07Ok.mono _ _ _ k
theorem spec_ValidScribe.calls (k : Nat) (A0_0 : Option Addr) (c0_0 : Nat) (l0_0 : List Bool) (A0_1 : Option Addr) (c0_1 : Nat) (l0_1 : List S49) (A0_2 : Option Addr) (c0_2 : Nat) (l0_2 : List S50) (r : Bool) (w : World)
    (hr0_0 : Kd.C Kd.bool w A0_0 l0_0.length l0_0) (_hc0_0 : l0_0.length ≤ c0_0) (hr0_1 : Kd.C k49 w A0_1 l0_1.length l0_1) (_hc0_1 : l0_1.length ≤ c0_1) (hr0_2 : Kd.C k50 w A0_2 l0_2.length l0_2) (_hc0_2 : l0_2.length ≤ c0_2)
    (h : spec_ValidScribe.f k l0_0 l0_1 l0_2 = some r) :
    Calls Try.prog 10 #[.agg #[.slice A0_0 l0_0.length c0_0, .slice A0_1 l0_1.length c0_1, .slice A0_2 l0_2.length c0_2]] w fun e w' => e = .returned (.bool r) ∧ Below w.heap.size w w' := by
  have HI := IsS35.new w w A0_0 c0_0 A0_1 c0_1 A0_2 c0_2 l0_0 l0_1 l0_2 (Below.refl _ _) hr0_0 hr0_1 hr0_2
  have H := Lib.hid h
  clear hr0_0 hr0_1 hr0_2 h _hc0_0 _hc0_1 _hc0_2
  go_enter Try.func10, Try.ntmps10
  go_wp2_with (go_at_call 21; refine (spec_l07Ok.calls k w.heap.size l0_0 l0_1 l0_2 r w _ HI (below_alloc (Below.refl _ _) _) H.out).mono ?_; rintro e w' ⟨rfl, _, hb, _⟩)
  go_ret
  exact ⟨rfl, hb⟩
end Go.Proofs.Ytnlcddjdedidlaa.PScA
