/- The law FnExactValidScribe: for every input the program's function and the reference's answer the same, and the arguments read as before. No condition. -/
import Derived.Test.YtnlcddjdedidlaaRows
import Derived.Test.YtnlcddjdedidlaaPureSc4
import Derived.Test.YtnlcddjdedidlaaReads
import Derived.WalkKit
import Derived.ProofKit
import Derived.OpenShut
import Derived.ShutString
import Derived.ChangeOld
import Derived.Below
import Derived.SizedLaws
import Derived.WideShapes
namespace Go.Proofs.Ytnlcddjdedidlaa.LFnExactValidScribe
open Go.ChangeShapes Go.WideShapes Go.ChangeAt Go.RowKit Go.Proofs.YtnlcddjdedidlaaW.PrintWords Go.Proofs.Ytnlcddjdedidlaa.Reads Go.Proofs.Ytnlcddjdedidlaa.PScA
open Go.ChangeMaps (open_string shut_string)
theorem own : ownKnob Try.prog.godebug = none := by kernel_rfl
theorem laidOut : laidOutB Try.prog = true := by kernel_rfl
set_option maxRecDepth 100000 in
theorem lifted (os : Os) (started : os.Started) (H : Type) (enc : TypeId × Value → H) :
    ReturnsInHanded {} Try.checked os 4 .any (Rows.fnExactValidScribeSpec.pre6 enc Try.prog Try.f4 Rows.fnExactValidScribeRow.domain false) (Rows.fnExactValidScribeSpec.post enc Try.prog Try.f4 false true false false) := by
  refine returnsInHanded_of_change_sized (C := Try.checked) own started (by kernel_rfl) Try.func4
    (ChangeSpec.witness6 (enc := enc) (C := Try.checked) false ⟨#[], #[.agg #[.slice none 0 0, .slice none 0 0, .slice none 0 0]], []⟩ 8 (by kernel_rfl) (by kernel_rfl) (by kernel_rfl) (by kernel_rfl)) ?_
  intro W base args ds gs before hval0 hW hcnd hsz0 _
  have hval : ∀ (j : Nat) t v, Try.f4.params[j]? = some t → args[j]? = some v → Value.okWide Try.prog W .any base t v := hval0
  have hW' := hW
  obtain ⟨p, q, hA0, hV, rfl, hfz, hnd⟩ := hW
  have hA : DataW.TrodAll enc Try.prog W 0 (fun _ => true) true Try.f4.params.toList args.toList ds p := hA0
  rw [Try.params4] at hA hval
  obtain ⟨v0, vs0, d0, ds0, p0, q0, hargs, rfl, rfl, h0, r0⟩ := trodAll_cons hA
  obtain ⟨rfl, rfl, rfl⟩ := trodAll_nil r0
  obtain rfl : args = #[v0] := by cases args; simp_all
  obtain ⟨rfl, rfl⟩ := trodVars_none hV
  have k0 := h0
  have lt0 : ∀ x ∈ p0, x.block < W.heap.size := by obtain ⟨m, hm⟩ := k0; exact DataW.trod_lt m _ _ _ hm
  obtain ⟨y0, kk0, bb0⟩ := opens_arg (opens_struct Try.underlying32 (by kernel_rfl) (fields_cons rfl (opens_slice Try.underlying28 (by kernel_rfl) (opens_bool Try.underlying4 (by kernel_rfl))) (fields_cons rfl (opens_slice Try.underlying29 (by kernel_rfl) (opens_iso (fun x : S49 => (x.f0, x.f1)) (fun p => (⟨p.1, p.2⟩ : S49)) (fun _ => rfl) (opens_two Try.underlying49 (by kernel_rfl) (opens_int Try.underlying2 (by kernel_rfl))))) (fields_one rfl (opens_slice Try.underlying30 (by kernel_rfl) (opens_iso (fun x : S50 => (x.f0, x.f1)) (fun p => (⟨p.1, p.2⟩ : S50)) (fun _ => rfl) (opens_two Try.underlying50 (by kernel_rfl) (opens_string Try.underlying9 (by kernel_rfl))))))))) h0
  obtain ⟨ca0, rfl, _⟩ := okWide_struct Try.underlying32 (hval 0 32 v0 rfl rfl)
  obtain ⟨l0, rfl⟩ : ∃ l : List Value, ca0 = l.toArray := ⟨ca0.toList, by simp⟩
  replace kk0 : (Kd.pair (Kd.slice 4 Kd.bool) (Kd.pair (Kd.slice 49 k49) (Kd.slice 50 k50))).K W y0 l0 := kk0
  clear hA0 hval0 hsz0
  refine (Go.Proofs.Ytnlcddjdedidlaa.WFnExactValidScribe.walk W l0 y0 kk0 bb0).mono fun e W' ⟨he, bel⟩ => ?_
  subst he
  exact ⟨_, rfl, _, _, _, [], _, [], hW', trodAll_mk1 (shut_bool Try.underlying4 _), (trodAll_cons_mk (Below.trod laidOut (by kernel_rfl) (of_decide_eq_true (by kernel_rfl)) k0 bel lt0) trodAll_mk0), rfl, bel.frame _, fun h => by cases h⟩
theorem over : Rows.fnExactValidScribeRow.holds Try.pinned (OpenSpec.ofChange Rows.fnExactValidScribeSpec) :=
  OpenClaim.holds_of_wide 4 Try.f4 rfl rfl rfl rfl rfl rfl rfl ⟨rfl, rfl, rfl, rfl, rfl⟩ rfl rfl rfl rfl rfl (by kernel_rfl) Try.func4 (by kernel_rfl)
    (of_decide_eq_true (by kernel_rfl)) (by unfold Func.isWrapper; first | (rw [if_pos (by decide +kernel)]; kernel_rfl) | (rw [if_neg (by decide +kernel)]; exact ⟨rfl, rfl⟩))
    (fun os started H enc _ => lifted os started H enc)
theorem proved : Rows.FnExactValidScribeSaid := over
#print axioms proved
end Go.Proofs.Ytnlcddjdedidlaa.LFnExactValidScribe
namespace Go.Proofs.Ytnlcddjdedidlaa
/-- The row, under a short name, for the claim. -/
theorem fnExactValidScribe_holds : Rows.FnExactValidScribeSaid := LFnExactValidScribe.proved
end Go.Proofs.Ytnlcddjdedidlaa
