/- What the laws' own functions on transducers come to. No condition. -/
import Derived.Test.YtjclfbcofclopaaDoorPTtAx
import Derived.Test.YtjclfbcofclopaaDoorPure
namespace Go.Proofs.YtjclfbcofclopaaDoor.PureTr
set_option linter.unusedVariables false
set_option linter.unusedSimpArgs false
open Go.RowKit Go.Proofs.YtjclfbcofclopaaDoorW.PrintWords Go.Proofs.YtjclfbcofclopaaDoorW.PrintLast Go.Proofs.YtjclfbcofclopaaDoorW.PrintMore Go.Proofs.YtjclfbcofclopaaDoor.PTtA Go.Proofs.YtjclfbcofclopaaDoor.Pure
abbrev LE := S131
abbrev IE := S80
def conv (x : LE) : IE := ⟨x.f0, x.f1, x.f2, x.f3⟩
theorem toBool_ev (xs : List Bool) (h : xs.length ≤ 281474976710656) : Ev (fun k => laws_toBoolS.f k xs) xs := by
  have key := ev_copy (fun k ys i => laws_toBoolS.l0 k xs ys i) xs false
    (fun ys hy => ev_const (fun k => by simp [laws_toBoolS.l0]))
    (fun i hi ys r hy H => ev_step (fun k => by
      simp only [laws_toBoolS.l0]
      rw [if_pos (by omega), if_pos (by omega), if_pos (by omega), rdOf_nat false xs i hi, wrap_up (by omega), Int.toNat_natCast]) H)
  exact Ev.congr (fun k => by unfold laws_toBoolS.f; rw [if_pos (by omega), if_pos (by simpa using h)]; simp) key
theorem toEdges_ev (xs : List LE) (h : xs.length ≤ 1048576) : Ev (fun k => laws_toEdgeS.f k xs) (xs.map conv) := by
  have hlen : (xs.map conv).length = xs.length := by simp
  have key := ev_copy (fun k ys i => laws_toEdgeS.l0 k xs ys i) (xs.map conv) z80
    (fun ys hy => ev_const (fun k => by simp [laws_toEdgeS.l0]))
    (fun i hi ys r hy H => ev_step (fun k => by
      rw [hlen] at hi
      have e : rd_T131 xs (i : Int) = xs[i] := getD_nat _ _ _ hi
      simp only [laws_toEdgeS.l0, laws_toEdge.f, Option.bind_some]
      rw [if_pos (by omega), if_pos (by omega), if_pos (by omega), e, wrap_up (by omega), Int.toNat_natCast]
      simp [conv]) H)
  rw [hlen] at key
  exact Ev.congr (fun k => by unfold laws_toEdgeS.f; rw [if_pos (by omega), if_pos (by simp; omega)]; simp) key
theorem toTr_ev (s : Int) (a : List Bool) (b : List LE) (ha : a.length ≤ 1048576) (hb : b.length ≤ 1048576) : Ev (fun k => laws_toTransducer.f k s a b) (s, a, b.map conv) :=
  ev_call (toBool_ev a (by omega)) (f := fun k t => (laws_toEdgeS.f k b).bind fun t2 => some (s, t, t2)) (ev_call (toEdges_ev b hb) (f := fun k t2 => some (s, a, t2)) (Ev.now _) (fun _ => rfl)) (fun _ => rfl)
theorem eqBool_ev (a : List Bool) (h : a.length ≤ 1048576) : Ev (fun k => laws_eqBoolS.f k a a) true := by
  have key := ev_up (fun k i (_ : Unit) => laws_eqBoolS.l0 k a a i) a.length (fun _ => ()) true (ev_const (fun k => by simp [laws_eqBoolS.l0]))
    (fun i hi H => ev_step (fun k => by
      simp only [laws_eqBoolS.l0]
      rw [if_pos (by omega), if_pos (by omega), if_pos (by omega), if_neg (by simp), wrap_up (by omega)]) H)
  exact Ev.congr (fun k => by simp [laws_eqBoolS.f]) key
theorem eqEdges_ev (a : List IE) (h : a.length ≤ 1048576) : Ev (fun k => laws_eqEdgeS.f k a a) true := by
  have key := ev_up (fun k i (_ : Unit) => laws_eqEdgeS.l0 k a a i) a.length (fun _ => ()) true (ev_const (fun k => by simp [laws_eqEdgeS.l0]))
    (fun i hi H => ev_step (fun k => by
      simp only [laws_eqEdgeS.l0, laws_eqEdge.f]
      rw [if_pos (by omega), if_pos (by omega), if_pos (by omega)]
      simp only [if_true, Option.bind_some, wrap_up (show i < 9223372036854775807 by omega)]) H)
  exact Ev.congr (fun k => by simp [laws_eqEdgeS.f]) key
theorem eqTr_ev (s : Int) (a : List Bool) (b : List IE) (ha : a.length ≤ 1048576) (hb : b.length ≤ 1048576) : Ev (fun k => laws_eqTransducer.f k s a b s a b) true :=
  ev_ift rfl (Ev.bind (eqBool_ev a ha) (ev_ift rfl (Ev.bind (eqEdges_ev b hb) (ev_ift rfl (Ev.now _)))))
theorem szEdge_is (x : LE) (m : Int) (h0 : 0 ≤ m) (hm : m ≤ 1048576) (s0 : x.f2.size ≤ 9223372036854775807) (s1 : x.f3.size ≤ 9223372036854775807) :
    ∃ v, laws_szEdge.f x.f0 x.f1 x.f2 x.f3 m = some v ∧ v ≤ m := by
  have w1 : wrap64 (m - x.f2.size) = m - x.f2.size := wrap_id (by omega) (by omega)
  unfold laws_szEdge.f
  rw [w1]
  by_cases q : m - (x.f2.size : Int) < 0
  · rw [if_pos q]; exact ⟨-1, rfl, by omega⟩
  · rw [if_neg q]
    have w2 : wrap64 (m - x.f2.size - x.f3.size) = m - x.f2.size - x.f3.size := wrap_id (by omega) (by omega)
    rw [w2]
    by_cases q2 : m - (x.f2.size : Int) - (x.f3.size : Int) < 0
    · rw [if_pos q2]; exact ⟨-1, rfl, by omega⟩
    · rw [if_neg q2]; exact ⟨_, rfl, by omega⟩
theorem szEdges_ev (c : List LE) (n : Int) (h0 : 0 ≤ n) (hn : n ≤ 1048576) (hl : c.length ≤ 9223372036854775807) (hs : ∀ x ∈ c, x.f2.size ≤ 9223372036854775807 ∧ x.f3.size ≤ 9223372036854775807) :
    ∃ r, Ev (fun k => laws_szEdgeS.f k c n) r ∧ r ≤ n ∧ (0 ≤ r → c.length ≤ 1048576) := by
  have hw : wrap64 (n - c.length) = n - c.length := wrap_id (by omega) (by omega)
  by_cases hlt : n - c.length < 0
  · exact ⟨-1, Ev.congr (fun k => by unfold laws_szEdgeS.f; rw [hw, if_pos hlt]) (Ev.now _), by omega, by omega⟩
  · have key : ∀ d i (m : Int), d + i = c.length → 0 ≤ m → m ≤ n - c.length → ∃ r, Ev (fun k => laws_szEdgeS.l0 k c m (i : Int)) r ∧ r ≤ n := by
      intro d
      induction d with
      | zero => intro i m hi h0 hm; exact ⟨m, ev_const (fun k => by simp only [laws_szEdgeS.l0]; rw [if_neg (by omega)]), by omega⟩
      | succ d ih =>
        intro i m hi h0 hm
        have hi' : i < c.length := by omega
        have e : rd_T131 c (i : Int) = c[i] := getD_nat _ _ _ hi'
        obtain ⟨s0, s1⟩ := hs c[i] (List.getElem_mem hi')
        obtain ⟨v, hv, hvm⟩ := szEdge_is c[i] m h0 (by omega) s0 s1
        by_cases q : v < 0
        · exact ⟨-1, ev_const (fun k => by
            simp only [laws_szEdgeS.l0]
            rw [if_pos (by omega), if_pos (by omega), e, hv, Option.bind_some, if_pos q]), by omega⟩
        · obtain ⟨r, hr, hrn⟩ := ih (i + 1) v (by omega) (by omega) (by omega)
          refine ⟨r, ev_step (fun k => ?_) hr, hrn⟩
          simp only [laws_szEdgeS.l0]
          rw [if_pos (by omega), if_pos (by omega), e, hv, Option.bind_some, if_neg q, wrap_up (by omega)]
          simp
    obtain ⟨r, hr, hrn⟩ := key c.length 0 _ (by omega) (by omega) (Int.le_refl _)
    refine ⟨r, Ev.congr (fun k => ?_) hr, hrn, by omega⟩
    unfold laws_szEdgeS.f
    rw [hw, if_neg hlt]
    rfl
theorem szTr_ev (s : Int) (a : List Bool) (c : List LE) (n : Int) (h0 : 0 ≤ n) (hn : n ≤ 1048576) (ha : a.length ≤ 9223372036854775807) (hl : c.length ≤ 9223372036854775807) (hs : ∀ x ∈ c, x.f2.size ≤ 9223372036854775807 ∧ x.f3.size ≤ 9223372036854775807) :
    ∃ r, Ev (fun k => laws_szTransducer.f k s a c n) r ∧ (0 ≤ r → a.length ≤ 1048576 ∧ c.length ≤ 1048576) := by
  have w1 : wrap64 (n - a.length) = n - a.length := wrap_id (by omega) (by omega)
  unfold laws_szTransducer.f laws_szBoolS.f
  rw [w1]
  by_cases q : n - (a.length : Int) < 0
  · exact ⟨-1, Ev.congr (fun k => by rw [if_pos q, Option.bind_some, if_pos (by decide)]) (Ev.now _), by omega⟩
  · obtain ⟨r, hr, hrn, hrl⟩ := szEdges_ev c (n - a.length) (by omega) (by omega) hl hs
    by_cases q2 : r < 0
    · refine ⟨-1, Ev.congr (f := fun k => (laws_szEdgeS.f k c (n - a.length)).bind fun t => if t < 0 then some (-1) else some t) (fun k => by rw [if_neg q, Option.bind_some, if_neg q]) ?_, by omega⟩
      exact Ev.bind hr (ev_ift q2 (Ev.now _))
    · refine ⟨r, Ev.congr (f := fun k => (laws_szEdgeS.f k c (n - a.length)).bind fun t => if t < 0 then some (-1) else some t) (fun k => by rw [if_neg q, Option.bind_some, if_neg q]) ?_, fun h => ⟨by omega, hrl h⟩⟩
      exact Ev.bind hr (ev_iff q2 (Ev.now _))
end Go.Proofs.YtjclfbcofclopaaDoor.PureTr
