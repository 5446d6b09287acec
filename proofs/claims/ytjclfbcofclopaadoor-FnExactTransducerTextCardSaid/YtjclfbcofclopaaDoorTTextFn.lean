/- The program's text of a transducer as a plain function, in the printer's form. -/
import Derived.Test.YtjclfbcofclopaaDoorTText
namespace Go.Proofs.YtjclfbcofclopaaDoor.TTx
open Go.Proofs.YtjclfbcofclopaaDoor.PTtA Go.RowKit Go.Proofs.YtjclfbcofclopaaDoorW.PrintWords Go.Proofs.YtjclfbcofclopaaDoorW.PrintLast Go.Proofs.YtjclfbcofclopaaDoorW.PrintMore Go.Proofs.YtjclfbcofclopaaDoor.Txt Go.Proofs.YtjclfbcofclopaaDoor.Bld
instance (x : S80) : Decidable (okE x) := by unfold okE; infer_instance
/-- What the walk asks of a transducer. -/
def okT (a0 : Int) (l1 : List Bool) (l2 : List S80) : Prop := (-9223372036854775808 ≤ a0 ∧ a0 ≤ 9223372036854775807) ∧ (T a0).size ≤ 1000 ∧ (T l1.length).size ≤ 1000 ∧ l1.length ≤ 40 ∧ l2.length ≤ 200 ∧ ∀ x ∈ l2, okE x
instance (a0 : Int) (l1 : List Bool) (l2 : List S80) : Decidable (okT a0 l1 l2) := by unfold okT; infer_instance
def impl_transducerText.f (a0_0 : Int) (l0_1 : List Bool) (l0_2 : List S80) : Option ByteArray := if okT a0_0 l0_1 l0_2 then some (ttB (T l0_1.length) (T a0_0) l0_1 l0_2) else none
theorem impl_transducerText.calls (a0_0 : Int) (A0_1 : Option Addr) (c0_1 : Nat) (l0_1 : List Bool) (A0_2 : Option Addr) (c0_2 : Nat) (l0_2 : List S80) (r : ByteArray) (w : World)
    (hr0_1 : Kd.C Kd.bool w A0_1 l0_1.length l0_1) (_hc0_1 : l0_1.length ≤ c0_1) (hr0_2 : Kd.C k80 w A0_2 l0_2.length l0_2) (_hc0_2 : l0_2.length ≤ c0_2) (hG : Glob w) (h : impl_transducerText.f a0_0 l0_1 l0_2 = some r) :
    Calls Tryd.prog 57 #[.agg #[.int .i64 a0_0, .slice A0_1 l0_1.length c0_1, .slice A0_2 l0_2.length c0_2]] w fun e w' => e = .returned (.string r) ∧ Below w.heap.size w w' := by
  unfold impl_transducerText.f at h
  split at h
  · rename_i hb
    obtain ⟨h1, h2, h3, h4, h5, h6⟩ := hb
    obtain rfl := Option.some.inj h
    exact tt A0_1 c0_1 l0_1 A0_2 c0_2 l0_2 a0_0 (T l0_1.length) (T a0_0) w hG hr0_1 hr0_2
      (fun W hW => impl_text.calls _ _ W hW (by unfold impl_text.f T; rw [if_pos (by omega)]))
      (fun W hW => impl_text.calls a0_0 _ W hW (by unfold impl_text.f T; rw [if_pos h1])) h3 h2 h4 h5 h6
  · cases h
end Go.Proofs.YtjclfbcofclopaaDoor.TTx
