/- The laws on ValidScribe and SameScribe: their walks, out of what they come to. No condition. -/
import Derived.Test.YtnlcddjdedidlaaPureSc3
import Derived.Test.YtnlcddjdedidlaaReads
namespace Go.Proofs.Ytnlcddjdedidlaa.PureSc
set_option linter.unusedVariables false
set_option linter.unusedSimpArgs false
open Go.RowKit Go.Proofs.YtnlcddjdedidlaaW.PrintWords Go.Proofs.YtnlcddjdedidlaaW.PrintLast Go.Proofs.YtnlcddjdedidlaaW.PrintMore Go.Proofs.Ytnlcddjdedidlaa.Sc Go.Proofs.Ytnlcddjdedidlaa.PScA Go.Proofs.Ytnlcddjdedidlaa.PScB Go.Proofs.Ytnlcddjdedidlaa.Pure
/-- The law on SameScribe answers true. -/
theorem law_same (a a' : List Bool) (b b' : List I2) (c c' : List T2) (ha : a.length ≤ 9223372036854775807) (hb : b.length ≤ 9223372036854775807) (hl : c.length ≤ 9223372036854775807)
    (hs : ∀ x ∈ c, x.f0.size ≤ 9223372036854775807 ∧ x.f1.size ≤ 9223372036854775807) (ha' : a'.length ≤ 9223372036854775807) (hb' : b'.length ≤ 9223372036854775807) (hl' : c'.length ≤ 9223372036854775807)
    (hs' : ∀ x ∈ c', x.f0.size ≤ 9223372036854775807 ∧ x.f1.size ≤ 9223372036854775807) : ∃ k, laws_FnExactSameScribe.f k a b c a' b' c' = some true := by
  refine Ev.rounds ?_
  obtain ⟨r, hr, hrn, hrl⟩ := szScribe_ev a b c 1048576 (by omega) (by omega) ha hb hl hs
  unfold laws_FnExactSameScribe.f
  refine Ev.bind hr ?_
  by_cases q : r < 0
  · exact ev_ift q (Ev.now _)
  · obtain ⟨h1, h2, h3⟩ := hrl (by omega)
    refine ev_iff q ?_
    obtain ⟨r', hr', hrn', hrl'⟩ := szScribe_ev a' b' c' r (by omega) (by omega) ha' hb' hl' hs'
    refine Ev.bind hr' ?_
    by_cases q' : r' < 0
    · exact ev_ift q' (Ev.now _)
    · obtain ⟨h1', h2', h3'⟩ := hrl' (by omega)
      have T := toScribe_ev a b c h1 h2 h3
      have T' := toScribe_ev a' b' c' h1' h2' h3'
      exact ev_iff q' (Ev.bind T (Ev.bind T' (Ev.bind (spec_same_ev a a' b b' c c' h1 h2 h3) (Ev.bind T (Ev.bind T' (Ev.bind (impl_same_ev a a' b b' c c' h1 h2 h3)
        (ev_iff (by simp) (Ev.bind T (Ev.bind (eqScribe_ev a b c h1 h2 h3) (ev_ift rfl (Ev.bind T' (Ev.bind (eqScribe_ev a' b' c' h1' h2' h3') (ev_ift rfl (Ev.now _))))))))))))))
abbrev kSc : Kd (List Bool × List I2 × List T2) := Kd.pair (Kd.slice 4 Kd.bool) (Kd.pair (Kd.slice 49 k49) (Kd.slice 50 k50))
theorem kSc_open {W : World} {y : List Bool × List I2 × List T2} {l : List Value} (h : kSc.K W y l) : ∃ A0 c0 A1 c1 A2 c2, l = [.slice A0 y.1.length c0, .slice A1 y.2.1.length c1, .slice A2 y.2.2.length c2] ∧
    y.1.length ≤ c0 ∧ Kd.C Kd.bool W A0 y.1.length y.1 ∧ y.2.1.length ≤ c1 ∧ Kd.C k49 W A1 y.2.1.length y.2.1 ∧ y.2.2.length ≤ c2 ∧ Kd.C k50 W A2 y.2.2.length y.2.2 := by
  obtain ⟨_, _, rfl, ⟨A0, c0, rfl, h0, r0⟩, _, _, rfl, ⟨A1, c1, rfl, h1, r1⟩, A2, c2, rfl, h2, r2⟩ := h
  exact ⟨A0, c0, A1, c1, A2, c2, rfl, h0, r0, h1, r1, h2, r2⟩
def bSc (y : List Bool × List I2 × List T2) : Prop := (y.1.length ≤ 9223372036854775807 ∧ ∀ z ∈ y.1, True) ∧ (y.2.1.length ≤ 9223372036854775807 ∧ ∀ z ∈ y.2.1, (Lit.int .i64 z.f0).wf = true ∧ (Lit.int .i64 z.f1).wf = true) ∧ (y.2.2.length ≤ 9223372036854775807 ∧ ∀ x ∈ y.2.2, x.f0.size ≤ 9223372036854775807 ∧ x.f1.size ≤ 9223372036854775807)
end Go.Proofs.Ytnlcddjdedidlaa.PureSc
namespace Go.Proofs.Ytnlcddjdedidlaa.WFnExactValidScribe
open Go.RowKit Go.Proofs.YtnlcddjdedidlaaW.PrintWords Go.Proofs.Ytnlcddjdedidlaa.PureSc Go.Proofs.Ytnlcddjdedidlaa.PScB Go.Proofs.Ytnlcddjdedidlaa.PScA
theorem walk (W : World) (l0 : List Value) (y0 : List Bool × List I2 × List T2) (k0 : kSc.K W y0 l0) (b0 : bSc y0) :
    Calls Try.prog 4 #[.agg l0.toArray] W fun e W' => e = .returned (.bool true) ∧ Below W.heap.size W W' := by
  obtain ⟨A0, c0, A1, c1, A2, c2, rfl, h0, r0, h1, r1, h2, r2⟩ := kSc_open k0
  obtain ⟨k, hk⟩ := law_valid y0.1 y0.2.1 y0.2.2 b0.1.1 b0.2.1.1 b0.2.2.1 b0.2.2.2
  exact laws_FnExactValidScribe.calls k A0 c0 y0.1 A1 c1 y0.2.1 A2 c2 y0.2.2 true W r0 h0 r1 h1 r2 h2 rfl hk
end Go.Proofs.Ytnlcddjdedidlaa.WFnExactValidScribe
namespace Go.Proofs.Ytnlcddjdedidlaa.WFnExactSameScribe
open Go.RowKit Go.Proofs.YtnlcddjdedidlaaW.PrintWords Go.Proofs.Ytnlcddjdedidlaa.PureSc Go.Proofs.Ytnlcddjdedidlaa.PScB Go.Proofs.Ytnlcddjdedidlaa.PScA
theorem walk (W : World) (l0 : List Value) (y0 : List Bool × List I2 × List T2) (k0 : kSc.K W y0 l0) (b0 : bSc y0) (l1 : List Value) (y1 : List Bool × List I2 × List T2) (k1 : kSc.K W y1 l1) (b1 : bSc y1) :
    Calls Try.prog 5 #[.agg l0.toArray, .agg l1.toArray] W fun e W' => e = .returned (.bool true) ∧ Below W.heap.size W W' := by
  obtain ⟨A0, c0, A1, c1, A2, c2, rfl, h0, r0, h1, r1, h2, r2⟩ := kSc_open k0
  obtain ⟨A0', c0', A1', c1', A2', c2', rfl, h0', r0', h1', r1', h2', r2'⟩ := kSc_open k1
  obtain ⟨k, hk⟩ := law_same y0.1 y1.1 y0.2.1 y1.2.1 y0.2.2 y1.2.2 b0.1.1 b0.2.1.1 b0.2.2.1 b0.2.2.2 b1.1.1 b1.2.1.1 b1.2.2.1 b1.2.2.2
  exact laws_FnExactSameScribe.calls k A0 c0 y0.1 A1 c1 y0.2.1 A2 c2 y0.2.2 A0' c0' y1.1 A1' c1' y1.2.1 A2' c2' y1.2.2 true W r0 h0 r1 h1 r2 h2 r0' h0' r1' h1' r2' h2' rfl hk
end Go.Proofs.Ytnlcddjdedidlaa.WFnExactSameScribe
