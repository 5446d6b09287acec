/- The law FnExactSameScribe: for every input the program's function and the reference's answer the same, and the arguments read as before. No condition. -/
import Derived.Test.YtnlcddjdedidlaaRows
import Derived.Test.YtnlcddjdedidlaaPureSc4
import Derived.Test.YtnlcddjdedidlaaReads
import Derived.WalkKit
import Derived.ProofKit
import Derived.OpenShut
import Derived.ShutString
import Derived.ChangeOld
import Derived.Below
import Derived.SizedLaws
import Derived.WideShapes
namespace Go.Proofs.Ytnlcddjdedidlaa.LFnExactSameScribe
open Go.ChangeShapes Go.WideShapes Go.ChangeAt Go.RowKit Go.Proofs.YtnlcddjdedidlaaW.PrintWords Go.Proofs.Ytnlcddjdedidlaa.Reads Go.Proofs.Ytnlcddjdedidlaa.PScA
open Go.ChangeMaps (open_string shut_string)
theorem own : ownKnob Try.prog.godebug = none := by kernel_rfl
theorem laidOut : laidOutB Try.prog = true := by kernel_rfl
set_option maxRecDepth 100000 in
theorem lifted (os : Os) (started : os.Started) (H : Type) (enc : TypeId × Value → H) :
    ReturnsInHanded {} Try.checked os 5 .any (Rows.fnExactSameScribeSpec.pre6 enc Try.prog Try.f5 Rows.fnExactSameScribeRow.domain false) (Rows.fnExactSameScribeSpec.post enc Try.prog Try.f5 false true false false) := by
  refine returnsInHanded_of_change_sized (C := Try.checked) own started (by kernel_rfl) Try.func5
    (ChangeSpec.witness6 (enc := enc) (C := Try.checked) false ⟨#[], #[.agg #[.slice none 0 0, .slice none 0 0, .slice none 0 0], .agg #[.slice none 0 0, .slice none 0 0, .slice none 0 0]], []⟩ 8 (by kernel_rfl) (by kernel_rfl) (by kernel_rfl) (by kernel_rfl)) ?_
  intro W base args ds gs before hval0 hW hcnd hsz0 _
  have hval : ∀ (j : Nat) t v, Try.f5.params[j]? = some t → args[j]? = some v → Value.okWide Try.prog W .any base t v := hval0
  have hW' := hW
  obtain ⟨p, q, hA0, hV, rfl, hfz, hnd⟩ := hW
  have hA : DataW.TrodAll enc Try.prog W 0 (fun _ => true) true Try.f5.params.toList args.toList ds p := hA0
  rw [Try.params5] at hA hval
  obtain ⟨v0, vs0, d0, ds0, p0, q0, hargs, rfl, rfl, h0, r0⟩ := trodAll_cons hA
  obtain ⟨v1, vs1, d1, ds1, p1, q1, rfl, rfl, rfl, h1, r1⟩ := trodAll_cons r0
  obtain ⟨rfl, rfl, rfl⟩ := trodAll_nil r1
  obtain rfl : args = #[v0, v1] := by cases args; simp_all
  obtain ⟨rfl, rfl⟩ := trodVars_none hV
  have k0 := h0
  have lt0 : ∀ x ∈ p0, x.block < W.heap.size := by obtain ⟨m, hm⟩ := k0; exact DataW.trod_lt m _ _ _ hm
  obtain ⟨y0, kk0, bb0⟩ := opens_arg (opens_struct Try.underlying32 (by kernel_rfl) (fields_cons rfl (opens_slice Try.underlying28 (by kernel_rfl) (opens_bool Try.underlying4 (by kernel_rfl))) (fields_cons rfl (opens_slice Try.underlying29 (by kernel_rfl) (opens_iso (fun x : S49 => (x.f0, x.f1)) (fun p => (⟨p.1, p.2⟩ : S49)) (fun _ => rfl) (opens_two Try.underlying49 (by kernel_rfl) (opens_int Try.underlying2 (by kernel_rfl))))) (fields_one rfl (opens_slice Try.underlying30 (by kernel_rfl) (opens_iso (fun x : S50 => (x.f0, x.f1)) (fun p => (⟨p.1, p.2⟩ : S50)) (fun _ => rfl) (opens_two Try.underlying50 (by kernel_rfl) (opens_string Try.underlying9 (by kernel_rfl))))))))) h0
  obtain ⟨ca0, rfl, _⟩ := okWide_struct Try.underlying32 (hval 0 32 v0 rfl rfl)
  obtain ⟨l0, rfl⟩ : ∃ l : List Value, ca0 = l.toArray := ⟨ca0.toList, by simp⟩
  replace kk0 : (Kd.pair (Kd.slice 4 Kd.bool) (Kd.pair (Kd.slice 49 k49) (Kd.slice 50 k50))).K W y0 l0 := kk0
  have k1 := h1
  have lt1 : ∀ x ∈ p1, x.block < W.heap.size := by obtain ⟨m, hm⟩ := k1; exact DataW.trod_lt m _ _ _ hm
  obtain ⟨y1, kk1, bb1⟩ := opens_arg (opens_struct Try.underlying32 (by kernel_rfl) (fields_cons rfl (opens_slice Try.underlying28 (by kernel_rfl) (opens_bool Try.underlying4 (by kernel_rfl))) (fields_cons rfl (opens_slice Try.underlying29 (by kernel_rfl) (opens_iso (fun x : S49 => (x.f0, x.f1)) (fun p => (⟨p.1, p.2⟩ : S49)) (fun _ => rfl) (opens_two Try.underlying49 (by kernel_rfl) (opens_int Try.underlying2 (by kernel_rfl))))) (fields_one rfl (opens_slice Try.underlying30 (by kernel_rfl) (opens_iso (fun x : S50 => (x.f0, x.f1)) (fun p => (⟨p.1, p.2⟩ : S50)) (fun _ => rfl) (opens_two Try.underlying50 (by kernel_rfl) (opens_string Try.underlying9 (by kernel_rfl))))))))) h1
  obtain ⟨ca1, rfl, _⟩ := okWide_struct Try.underlying32 (hval 1 32 v1 rfl rfl)
  obtain ⟨l1, rfl⟩ : ∃ l : List Value, ca1 = l.toArray := ⟨ca1.toList, by simp⟩
  replace kk1 : (Kd.pair (Kd.slice 4 Kd.bool) (Kd.pair (Kd.slice 49 k49) (Kd.slice 50 k50))).K W y1 l1 := kk1
  clear hA0 hval0 hsz0
  refine (Go.Proofs.Ytnlcddjdedidlaa.WFnExactSameScribe.walk W l0 y0 kk0 bb0 l1 y1 kk1 bb1).mono fun e W' ⟨he, bel⟩ => ?_
  subst he
  exact ⟨_, rfl, _, _, _, [], _, [], hW', trodAll_mk1 (shut_bool Try.underlying4 _), (trodAll_cons_mk (Below.trod laidOut (by kernel_rfl) (of_decide_eq_true (by kernel_rfl)) k0 bel lt0) (trodAll_cons_mk (Below.trod laidOut (by kernel_rfl) (of_decide_eq_true (by kernel_rfl)) k1 bel lt1) trodAll_mk0)), rfl, bel.frame _, fun h => by cases h⟩
theorem over : Rows.fnExactSameScribeRow.holds Try.pinned (OpenSpec.ofChange Rows.fnExactSameScribeSpec) :=
  OpenClaim.holds_of_wide 5 Try.f5 rfl rfl rfl rfl rfl rfl rfl ⟨rfl, rfl, rfl, rfl, rfl⟩ rfl rfl rfl rfl rfl (by kernel_rfl) Try.func5 (by kernel_rfl)
    (of_decide_eq_true (by kernel_rfl)) (by unfold Func.isWrapper; first | (rw [if_pos (by decide +kernel)]; kernel_rfl) | (rw [if_neg (by decide +kernel)]; exact ⟨rfl, rfl⟩))
    (fun os started H enc _ => lifted os started H enc)
theorem proved : Rows.FnExactSameScribeSaid := over
#print axioms proved
end Go.Proofs.Ytnlcddjdedidlaa.LFnExactSameScribe
namespace Go.Proofs.Ytnlcddjdedidlaa
/-- The row, under a short name, for the claim. -/
theorem fnExactSameScribe_holds : Rows.FnExactSameScribeSaid := LFnExactSameScribe.proved
end Go.Proofs.Ytnlcddjdedidlaa
