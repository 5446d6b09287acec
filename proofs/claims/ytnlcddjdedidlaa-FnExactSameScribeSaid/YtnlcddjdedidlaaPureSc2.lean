/- SameScribe and ValidScribe of the program and of the reference come to the same; so do the two laws. No condition. -/
import Derived.Test.YtnlcddjdedidlaaPureSc
namespace Go.Proofs.Ytnlcddjdedidlaa.PureSc
set_option linter.unusedVariables false
set_option linter.unusedSimpArgs false
open Go.RowKit Go.Proofs.YtnlcddjdedidlaaW.PrintWords Go.Proofs.YtnlcddjdedidlaaW.PrintLast Go.Proofs.YtnlcddjdedidlaaW.PrintMore Go.Proofs.Ytnlcddjdedidlaa.Sc Go.Proofs.Ytnlcddjdedidlaa.PScA Go.Proofs.Ytnlcddjdedidlaa.PScB Go.Proofs.Ytnlcddjdedidlaa.Pure
theorem l01_ev (a b : List Bool) (h : a.length ≤ 1048576) : Ev (fun k => spec_l01Bools.f k a b) (decide (a = b)) := by
  by_cases hl : a.length = b.length
  · have key := ev_all (fun k i => spec_l01Bools.l0 k a b i) a.length (fun i => a.getD i false == b.getD i false)
      (ev_const (fun k => by simp [spec_l01Bools.l0]))
      (fun i hi hp r H => ev_step (fun k => by
        simp only [spec_l01Bools.l0]
        rw [if_pos (by omega), if_pos (by omega), if_pos (by omega), if_neg (by simpa [rdOf] using hp), wrap_up (by omega)]) H)
      (fun i hi hp => ev_const (fun k => by
        simp only [spec_l01Bools.l0]
        rw [if_pos (by omega), if_pos (by omega), if_pos (by omega), if_pos (by simpa [rdOf] using hp)]))
    have e : (List.range a.length).all (fun i => a.getD i false == b.getD i false) = decide (a = b) := by
      rw [Bool.eq_iff_iff, decide_eq_true_iff]; exact eq_all a b (fun x y => x == y) false (fun _ _ => beq_iff_eq) hl
    rw [e] at key
    exact Ev.congr (fun k => by unfold spec_l01Bools.f; rw [if_pos (by omega)]) key
  · have e : decide (a = b) = false := decide_eq_false (fun e => hl (by rw [e]))
    rw [e]; exact Ev.congr (fun k => by unfold spec_l01Bools.f; rw [if_neg (by omega)]) (Ev.now _)
theorem eqB_ev (a b : List Bool) (h : a.length ≤ 1048576) : Ev (fun k => slices_Equal_bool_bool.f k a b) (decide (a = b)) := by
  by_cases hl : a.length = b.length
  · have key := ev_all (fun k i => slices_Equal_bool_bool.l0 k a b (a.length : Int) i) a.length (fun i => a.getD i false == b.getD i false)
      (ev_const (fun k => by simp [slices_Equal_bool_bool.l0]))
      (fun i hi hp r H => ev_step (fun k => by
        simp only [slices_Equal_bool_bool.l0]
        rw [if_pos (by omega), if_pos (by omega), if_pos (by omega), if_pos (by omega), if_neg (by simpa [rdOf] using hp), wrap_up (by omega)]) H)
      (fun i hi hp => ev_const (fun k => by
        simp only [slices_Equal_bool_bool.l0]
        rw [if_pos (by omega), if_pos (by omega), if_pos (by omega), if_pos (by omega), if_pos (by simpa [rdOf] using hp)]))
    have e : (List.range a.length).all (fun i => a.getD i false == b.getD i false) = decide (a = b) := by
      rw [Bool.eq_iff_iff, decide_eq_true_iff]; exact eq_all a b (fun x y => x == y) false (fun _ _ => beq_iff_eq) hl
    rw [e] at key
    exact Ev.congr (fun k => by unfold slices_Equal_bool_bool.f; rw [if_pos (by omega)]) key
  · have e : decide (a = b) = false := decide_eq_false (fun e => hl (by rw [e]))
    rw [e]; exact Ev.congr (fun k => by unfold slices_Equal_bool_bool.f; rw [if_neg (by omega)]) (Ev.now _)
def sameI (x y : I2) : Bool := x.f0 == y.f0 && x.f1 == y.f1
def sameT (x y : T2) : Bool := x.f0.toList == y.f0.toList && x.f1.toList == y.f1.toList
theorem sameI_iff (x y : I2) : sameI x y = true ↔ x = y := by cases x; cases y; simp [sameI]
theorem sameT_iff (x y : T2) : sameT x y = true ↔ x = y := by
  obtain ⟨a, b⟩ := x; obtain ⟨c, d⟩ := y
  simp only [sameT, Bool.and_eq_true, Lib.bytes_beq_iff]
  exact ⟨fun h => by rw [h.1, h.2], fun h => by injection h with h1 h2; exact ⟨h1, h2⟩⟩
def eqI (a b : List I2) : Bool := a.length == b.length && (List.range a.length).all fun i => sameI (a.getD i z49) (b.getD i z49)
def eqT (a b : List T2) : Bool := a.length == b.length && (List.range a.length).all fun i => sameT (a.getD i z50) (b.getD i z50)
theorem eqI_ev (a b : List I2) (h : a.length ≤ 1048576) : Ev (fun k => slices_Equal_2_int64_2_int64.f k a b) (eqI a b) := by
  by_cases hl : a.length = b.length
  · have key := ev_all (fun k i => slices_Equal_2_int64_2_int64.l0 k a b (a.length : Int) i) a.length (fun i => sameI (a.getD i z49) (b.getD i z49))
      (ev_const (fun k => by simp [slices_Equal_2_int64_2_int64.l0]))
      (fun i hi hp r H => ev_step (fun k => by
        simp only [slices_Equal_2_int64_2_int64.l0]
        rw [if_pos (by omega), if_pos (by omega), if_pos (by omega), if_pos (by omega), if_neg (by simpa [rd_T49, sameI] using hp), wrap_up (by omega)]) H)
      (fun i hi hp => ev_const (fun k => by
        simp only [slices_Equal_2_int64_2_int64.l0]
        rw [if_pos (by omega), if_pos (by omega), if_pos (by omega), if_pos (by omega), if_pos (by simp only [sameI, Bool.and_eq_false_iff] at hp; simpa [rd_T49] using hp)]))
    have e : eqI a b = (List.range a.length).all (fun i => sameI (a.getD i z49) (b.getD i z49)) := by simp [eqI, hl]
    rw [← e] at key
    exact Ev.congr (fun k => by unfold slices_Equal_2_int64_2_int64.f; rw [if_pos (by omega)]) key
  · have e : eqI a b = false := by simp [eqI, hl]
    rw [e]; exact Ev.congr (fun k => by unfold slices_Equal_2_int64_2_int64.f; rw [if_neg (by omega)]) (Ev.now _)
theorem eqT_ev (a b : List T2) (h : a.length ≤ 1048576) : Ev (fun k => slices_Equal_2_string_2_string.f k a b) (eqT a b) := by
  by_cases hl : a.length = b.length
  · have key := ev_all (fun k i => slices_Equal_2_string_2_string.l0 k a b (a.length : Int) i) a.length (fun i => sameT (a.getD i z50) (b.getD i z50))
      (ev_const (fun k => by simp [slices_Equal_2_string_2_string.l0]))
      (fun i hi hp r H => ev_step (fun k => by
        simp only [slices_Equal_2_string_2_string.l0]
        rw [if_pos (by omega), if_pos (by omega), if_pos (by omega), if_pos (by omega), if_neg (by simpa [rd_T50, sameT] using hp), wrap_up (by omega)]) H)
      (fun i hi hp => ev_const (fun k => by
        simp only [slices_Equal_2_string_2_string.l0]
        rw [if_pos (by omega), if_pos (by omega), if_pos (by omega), if_pos (by omega), if_pos (by simp only [sameT, Bool.and_eq_false_iff] at hp; simpa [rd_T50] using hp)]))
    have e : eqT a b = (List.range a.length).all (fun i => sameT (a.getD i z50) (b.getD i z50)) := by simp [eqT, hl]
    rw [← e] at key
    exact Ev.congr (fun k => by unfold slices_Equal_2_string_2_string.f; rw [if_pos (by omega)]) key
  · have e : eqT a b = false := by simp [eqT, hl]
    rw [e]; exact Ev.congr (fun k => by unfold slices_Equal_2_string_2_string.f; rw [if_neg (by omega)]) (Ev.now _)
theorem impl_same_ev (a a' : List Bool) (b b' : List I2) (c c' : List T2) (ha : a.length ≤ 1048576) (hb : b.length ≤ 1048576) (hc : c.length ≤ 1048576) :
    Ev (fun k => impl_SameScribe.f k a b c a' b' c') (decide (a = a') && (eqI b b' && eqT c c')) := by
  refine ev_call (eqB_ev a a' ha) (f := fun k t194 => (if t194 = true then ((slices_Equal_2_int64_2_int64.f k b b').bind fun t195 => (if t195 = true then ((slices_Equal_2_string_2_string.f k c c').bind fun t196 => (some t196)) else (some false))) else (some false))) ?_ (fun _ => rfl)
  cases h1 : decide (a = a') with
  | false => exact ev_iff (by simp) (Ev.now _)
  | true =>
    refine ev_ift rfl (ev_call (eqI_ev b b' hb) (f := fun k t195 => (if t195 = true then ((slices_Equal_2_string_2_string.f k c c').bind fun t196 => (some t196)) else (some false))) ?_ (fun _ => rfl))
    cases h2 : eqI b b' with
    | false => exact ev_iff (by simp) (Ev.now _)
    | true => exact ev_ift rfl (ev_call (eqT_ev c c' hc) (f := fun _ t => some t) (by rw [Bool.true_and, Bool.true_and]; exact Ev.now _) (fun _ => rfl))
theorem spec_l1_ev (a a' : List Bool) (b b' : List I2) (c c' : List T2) (hc : c.length ≤ 1048576) (hl : c.length = c'.length) : Ev (fun k => spec_SameScribe.l1 k 0 a b c a' b' c') (eqT c c') := by
  have key := ev_all (fun k i => spec_SameScribe.l1 k i a b c a' b' c') c.length (fun i => sameT (c.getD i z50) (c'.getD i z50))
    (ev_const (fun k => by simp [spec_SameScribe.l1]))
    (fun i hi hp r H => ev_step (fun k => by
      simp only [spec_SameScribe.l1]
      rw [if_pos (by omega), if_pos (by omega), if_pos (by omega), if_neg (by simpa [rd_T50, sameT] using hp), wrap_up (by omega)]) H)
    (fun i hi hp => ev_const (fun k => by
      simp only [spec_SameScribe.l1]
      rw [if_pos (by omega), if_pos (by omega), if_pos (by omega), if_pos (by simp only [sameT, Bool.and_eq_false_iff] at hp; simpa [rd_T50] using hp)]))
  have e : eqT c c' = (List.range c.length).all (fun i => sameT (c.getD i z50) (c'.getD i z50)) := by simp [eqT, hl]
  rw [← e] at key
  exact key
theorem spec_l0_ev (a a' : List Bool) (b b' : List I2) (c c' : List T2) (hb : b.length ≤ 1048576) (hc : c.length ≤ 1048576) (hl : b.length = b'.length) (hl' : c.length = c'.length) : Ev (fun k => spec_SameScribe.l0 k 0 a b c a' b' c') (eqI b b' && eqT c c') := by
  have h1 := spec_l1_ev a a' b b' c c' hc hl'
  cases h2 : eqT c c' with
  | true =>
    rw [h2] at h1
    have key := ev_all (fun k i => spec_SameScribe.l0 k i a b c a' b' c') b.length (fun i => sameI (b.getD i z49) (b'.getD i z49))
      (ev_step (fun k => by simp only [spec_SameScribe.l0]; rw [if_neg (by omega)]) h1)
      (fun i hi hp r H => ev_step (fun k => by
        simp only [spec_SameScribe.l0]
        rw [if_pos (by omega), if_pos (by omega), if_pos (by omega), if_neg (by simpa [rd_T49, sameI] using hp), wrap_up (by omega)]) H)
      (fun i hi hp => ev_const (fun k => by
        simp only [spec_SameScribe.l0]
        rw [if_pos (by omega), if_pos (by omega), if_pos (by omega), if_pos (by simp only [sameI, Bool.and_eq_false_iff] at hp; simpa [rd_T49] using hp)]))
    have e : eqI b b' = (List.range b.length).all (fun i => sameI (b.getD i z49) (b'.getD i z49)) := by simp [eqI, hl]
    rw [← e] at key
    rw [Bool.and_true]
    exact key
  | false =>
    rw [h2] at h1
    rw [Bool.and_false]
    refine ev_up (fun k i (_ : Unit) => spec_SameScribe.l0 k i a b c a' b' c') b.length (fun _ => ()) false (ev_step (fun k => by simp only [spec_SameScribe.l0]; rw [if_neg (by omega)]) h1) (fun i hi H => ?_)
    cases hp : sameI (b.getD i z49) (b'.getD i z49) with
    | true => exact ev_step (fun k => by
        simp only [spec_SameScribe.l0]
        rw [if_pos (by omega), if_pos (by omega), if_pos (by omega), if_neg (by simpa [rd_T49, sameI] using hp), wrap_up (by omega)]) H
    | false => exact ev_const (fun k => by
        simp only [spec_SameScribe.l0]
        rw [if_pos (by omega), if_pos (by omega), if_pos (by omega), if_pos (by simp only [sameI, Bool.and_eq_false_iff] at hp; simpa [rd_T49] using hp)])
theorem spec_same_ev (a a' : List Bool) (b b' : List I2) (c c' : List T2) (ha : a.length ≤ 1048576) (hb : b.length ≤ 1048576) (hc : c.length ≤ 1048576) :
    Ev (fun k => spec_SameScribe.f k a b c a' b' c') (decide (a = a') && (eqI b b' && eqT c c')) := by
  have no : ∀ t : Bool, t = true → Ev (fun k => spec_SameScribe.j0 k t a b c a' b' c') false := fun t ht => ev_const (fun k => by simp only [spec_SameScribe.j0]; rw [if_pos ht])
  refine ev_call (l01_ev a a' ha) (f := fun k t181 => (if t181 = true then (if (b.length : Int) = (b'.length : Int) then (spec_SameScribe.j0 k ((c.length : Int) != (c'.length : Int)) a b c a' b' c') else (spec_SameScribe.j0 k true a b c a' b' c')) else (spec_SameScribe.j0 k true a b c a' b' c'))) ?_ (fun _ => rfl)
  cases h1 : decide (a = a') with
  | false => exact ev_iff (by simp) (no _ rfl)
  | true =>
    refine ev_ift rfl ?_
    by_cases hl : b.length = b'.length
    · refine ev_ift (by omega) ?_
      by_cases hl' : c.length = c'.length
      · rw [Bool.true_and]
        exact ev_step (fun k => by simp only [spec_SameScribe.j0]; rw [if_neg (by simp [hl'])]) (spec_l0_ev a a' b b' c c' hb hc hl hl')
      · have e : eqT c c' = false := by simp [eqT, hl']
        rw [e, Bool.and_false, Bool.and_false]
        exact no _ (by simp; omega)
    · have e : eqI b b' = false := by simp [eqI, hl]
      rw [e, Bool.false_and, Bool.and_false]
      exact ev_iff (by omega) (no _ rfl)
end Go.Proofs.Ytnlcddjdedidlaa.PureSc
