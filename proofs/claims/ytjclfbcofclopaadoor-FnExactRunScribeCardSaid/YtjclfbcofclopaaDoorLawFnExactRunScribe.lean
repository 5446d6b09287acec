/- The law FnExactRunScribe: for every input the program's function and the reference's answer the same, and the arguments read as before. No condition. -/
import Derived.Test.YtjclfbcofclopaaDoorRows
import Derived.Test.YtjclfbcofclopaaDoorPureRun
import Derived.Test.YtjclfbcofclopaaDoorReads
import Derived.LaidMore
import Derived.Lay
import Derived.MakeChecks
import Derived.Test.YtjclfbcofclopaaDoorNoGlob
import Derived.WalkKit
import Derived.ProofKit
import Derived.OpenShut
import Derived.ShutString
import Derived.ChangeOld
import Derived.Below
import Derived.SizedLaws
import Derived.WideShapes
namespace Go.Proofs.YtjclfbcofclopaaDoor.LFnExactRunScribe
open Go.ChangeShapes Go.WideShapes Go.ChangeAt Go.RowKit Go.Proofs.YtjclfbcofclopaaDoorW.PrintWords Go.Proofs.YtjclfbcofclopaaDoor.Reads Go.Proofs.YtjclfbcofclopaaDoor.PScA
open Go.ChangeMaps (open_string shut_string)
theorem own : ownKnob Tryd.prog.godebug = none := by kernel_rfl
theorem laidOut : laidOutB Tryd.prog = true := by kernel_rfl
set_option maxRecDepth 100000 in
theorem lifted (os : Os) (started : os.Started) (H : Type) (enc : TypeId × Value → H) :
    ReturnsInHanded {} Tryd.checked os 4 .any (fun w args => (Rows.fnExactRunScribeSpec.pre enc Tryd.prog Tryd.f4 [] false w args ∧ laidMetH Tryd.prog Rows.fnExactRunScribeRow.laid w) ∧ sizedMet enc Tryd.prog Tryd.f4 (OpenSpec.ofChange Rows.fnExactRunScribeSpec) false w args)
      (Rows.fnExactRunScribeSpec.post enc Tryd.prog Tryd.f4 false true false false) := by
  refine returnsInHanded_of_change_and (C := Tryd.checked) (X := fun w _ => laidMetH Tryd.prog Rows.fnExactRunScribeRow.laid w) (fun _ _ _ hh h => h.of_heap hh) own started (by kernel_rfl) Tryd.func4
    (ChangeSpec.witness_shaped (enc := enc) (C := Tryd.checked) (os := os) (X := fun w _ => laidMetH Tryd.prog Rows.fnExactRunScribeRow.laid w) false (World.laidAll Tryd.prog os Rows.fnExactRunScribeRow.laid) #[.agg #[.slice none 0 0, .slice none 0 0, .slice none 0 0], .string ByteArray.empty] 8 (World.laidAll_os _ _ _) (World.shaped_of_ZipB (by kernel_rfl) (by kernel_rfl)) (by kernel_rfl) (by kernel_rfl) (by kernel_rfl) (by rw [MakeChecks.laidMetH_plain _ _ _ (by kernel_rfl)]; exact laidMet_laidAll _ (by kernel_rfl) (by kernel_rfl))) ?_
  intro W base args ds gs before hval0 hW hcnd hsz0 hL _
  have hval : ∀ (j : Nat) t v, Tryd.f4.params[j]? = some t → args[j]? = some v → Value.okWide Tryd.prog W .any base t v := hval0
  have hW' := hW
  obtain ⟨p, q, hA0, hV, rfl, hfz, hnd⟩ := hW
  have hA : DataW.TrodAll enc Tryd.prog W 0 (fun _ => true) true Tryd.f4.params.toList args.toList ds p := hA0
  rw [Tryd.params4] at hA hval
  obtain ⟨v0, vs0, d0, ds0, p0, q0, hargs, rfl, rfl, h0, r0⟩ := trodAll_cons hA
  obtain ⟨v1, vs1, d1, ds1, p1, q1, rfl, rfl, rfl, h1, r1⟩ := trodAll_cons r0
  obtain ⟨rfl, rfl, rfl⟩ := trodAll_nil r1
  obtain rfl : args = #[v0, v1] := by cases args; simp_all
  obtain ⟨rfl, rfl⟩ := trodVars_none hV
  have k0 := h0
  have lt0 : ∀ x ∈ p0, x.block < W.heap.size := by obtain ⟨m, hm⟩ := k0; exact DataW.trod_lt m _ _ _ hm
  obtain ⟨y0, kk0, bb0⟩ := opens_arg (opens_struct Tryd.underlying37 (by kernel_rfl) (fields_cons rfl (opens_slice Tryd.underlying22 (by kernel_rfl) (opens_bool Tryd.underlying4 (by kernel_rfl))) (fields_cons rfl (opens_slice Tryd.underlying34 (by kernel_rfl) (opens_iso (fun x : S91 => (x.f0, x.f1)) (fun p => (⟨p.1, p.2⟩ : S91)) (fun _ => rfl) (opens_two Tryd.underlying91 (by kernel_rfl) (opens_int Tryd.underlying2 (by kernel_rfl))))) (fields_one rfl (opens_slice Tryd.underlying35 (by kernel_rfl) (opens_iso (fun x : S92 => (x.f0, x.f1)) (fun p => (⟨p.1, p.2⟩ : S92)) (fun _ => rfl) (opens_two Tryd.underlying92 (by kernel_rfl) (opens_string Tryd.underlying9 (by kernel_rfl))))))))) h0
  obtain ⟨ca0, rfl, _⟩ := okWide_struct Tryd.underlying37 (hval 0 37 v0 rfl rfl)
  obtain ⟨l0, rfl⟩ : ∃ l : List Value, ca0 = l.toArray := ⟨ca0.toList, by simp⟩
  replace kk0 : (Kd.pair (Kd.slice 4 Kd.bool) (Kd.pair (Kd.slice 91 k91) (Kd.slice 92 k92))).K W y0 l0 := kk0
  have k1 := h1
  have lt1 : ∀ x ∈ p1, x.block < W.heap.size := by obtain ⟨m, hm⟩ := k1; exact DataW.trod_lt m _ _ _ hm
  obtain ⟨y1, kk1, bb1⟩ := opens_arg (opens_string Tryd.underlying9 (by kernel_rfl)) h1
  obtain ⟨a1, rfl, rfl, rfl, w1⟩ := open_string Tryd.underlying9 (hval 1 9 v1 rfl rfl) h1
  obtain rfl : a1 = y1 := by simpa [Value.cells, Kd.string, Kd.scalar] using kk1
  clear hA0 hval0 hsz0
  refine (Go.Proofs.YtjclfbcofclopaaDoor.WFnExactRunScribe.walk W (Glb.none_of_laid hL) l0 y0 kk0 bb0 a1 bb1).mono fun e W' ⟨he, bel⟩ => ?_
  subst he
  exact ⟨_, rfl, _, _, _, [], _, [], hW', trodAll_mk1 (shut_bool Tryd.underlying4 _), (trodAll_cons_mk (Below.trod laidOut (by kernel_rfl) (of_decide_eq_true (by kernel_rfl)) k0 bel lt0) (trodAll_cons_mk (Below.trod laidOut (by kernel_rfl) (of_decide_eq_true (by kernel_rfl)) k1 bel lt1) trodAll_mk0)), rfl, bel.frame _, fun h => by cases h⟩
theorem over : Rows.fnExactRunScribeRow.holds Tryd.pinned (OpenSpec.ofChange Rows.fnExactRunScribeSpec) :=
  OpenClaim.holds_of_wide 4 Tryd.f4 rfl rfl rfl rfl rfl rfl rfl ⟨rfl, rfl, rfl, rfl, rfl⟩ rfl rfl rfl rfl rfl (by kernel_rfl) Tryd.func4 (by kernel_rfl)
    (of_decide_eq_true (by kernel_rfl)) (by unfold Func.isWrapper; first | (rw [if_pos (by decide +kernel)]; kernel_rfl) | (rw [if_neg (by decide +kernel)]; exact ⟨rfl, rfl⟩))
    (fun os started H enc _ => lifted os started H enc)
theorem proved : Rows.FnExactRunScribeSaid := over
#print axioms proved
end Go.Proofs.YtjclfbcofclopaaDoor.LFnExactRunScribe
namespace Go.Proofs.YtjclfbcofclopaaDoor
/-- The row, under a short name, for the claim. -/
theorem fnExactRunScribe_holds : Rows.FnExactRunScribeSaid := LFnExactRunScribe.proved
end Go.Proofs.YtjclfbcofclopaaDoor
