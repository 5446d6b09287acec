/- ValidTransducer: the program's and the reference's come to one Bool. No condition. -/
import Derived.Test.YtjclfbcofclopaaDoorPureTr
namespace Go.Proofs.YtjclfbcofclopaaDoor.PureTr
set_option linter.unusedVariables false
set_option linter.unusedSimpArgs false
open Go.RowKit Go.Proofs.YtjclfbcofclopaaDoorW.PrintWords Go.Proofs.YtjclfbcofclopaaDoorW.PrintLast Go.Proofs.YtjclfbcofclopaaDoorW.PrintMore Go.Proofs.YtjclfbcofclopaaDoor.PTtA Go.Proofs.YtjclfbcofclopaaDoor.Pure
/-- Empty, or one letter. -/
def letterB (s : ByteArray) : Bool := s.toList == [] || s.toList == [97] || s.toList == [98]
theorem spec_letter (s : ByteArray) : spec_l06Letter.f s = some (letterB s) := by
  unfold spec_l06Letter.f letterB
  split
  · rename_i h; rw [h]; rfl
  · rename_i h1
    split
    · rename_i h; rw [h]; rfl
    · rename_i h2
      have e1 : (s.toList == []) = false := by simpa using h1
      have e2 : (s.toList == [97]) = false := by simpa using h2
      rw [e1, e2]; rfl
theorem impl_letter (s : ByteArray) : impl_isLetter.f s = some (letterB s) := (show impl_isLetter.f s = spec_l06Letter.f s from rfl).trans (spec_letter s)
def inB (a n : Int) : Bool := decide (0 ≤ a ∧ a ≤ n - 1)
theorem spec_in (a n : Int) : spec_l00In.f a 0 (n - 1) = some (inB a n) := by
  unfold spec_l00In.f inB
  by_cases h : a ≥ 0
  · rw [if_pos h]; congr 1; simp; omega
  · rw [if_neg h]; congr 1; simp; omega
theorem impl_in (a n : Int) : impl_within.f a 0 (n - 1) = some (inB a n) := by
  unfold impl_within.f inB
  by_cases h : 0 ≤ a
  · rw [if_pos h]; congr 1; simp; omega
  · rw [if_neg h]; congr 1; simp; omega
def edgeB (n : Int) (x : IE) : Bool := inB x.f0 n && inB x.f1 n && letterB x.f2 && letterB x.f3
def edgesB (n : Int) (l : List IE) : Bool := (List.range l.length).all fun i => edgeB n (l.getD i z80)
theorem spec_edges (n : Nat) (s : Int) (a : List Bool) (l : List IE) (hn : n ≤ 1048576) (hl : l.length ≤ 1048576) : Ev (fun k => spec_l06Form.l0 k (n : Int) 0 s a l) (edgesB n l) := by
  have w : wrap64 ((n : Int) - 1) = (n : Int) - 1 := wrap_id (by omega) (by omega)
  refine ev_all (fun k i => spec_l06Form.l0 k n i s a l) l.length _ (ev_const (fun k => by simp [spec_l06Form.l0])) (fun i hi hp r H => ?_) (fun i hi hp => ?_)
  · have e : rd_T80 l (i : Int) = l.getD i z80 := rfl
    unfold edgeB at hp
    simp only [Bool.and_eq_true] at hp
    obtain ⟨⟨⟨h0, h1⟩, h2⟩, h3⟩ := hp
    refine ev_step (fun k => ?_) H
    simp only [spec_l06Form.l0]
    rw [if_pos (by omega), if_pos (by omega), e, w, spec_in, h0, Option.bind_some, if_pos rfl, spec_in, h1, Option.bind_some, if_pos rfl, spec_letter, h2, Option.bind_some, if_pos rfl, spec_letter, h3, Option.bind_some, if_pos rfl, wrap_up (by omega)]
  · have e : rd_T80 l (i : Int) = l.getD i z80 := rfl
    refine ev_const (fun k => ?_)
    simp only [spec_l06Form.l0]
    rw [if_pos (by omega), if_pos (by omega), e, w, spec_in, Option.bind_some]
    unfold edgeB at hp
    cases h0 : inB (l.getD i z80).f0 n with
    | false => rw [if_neg (by decide)]
    | true =>
      rw [if_pos rfl, spec_in, Option.bind_some]
      cases h1 : inB (l.getD i z80).f1 n with
      | false => rw [if_neg (by decide)]
      | true =>
        rw [if_pos rfl, spec_letter, Option.bind_some]
        cases h2 : letterB (l.getD i z80).f2 with
        | false => rw [if_neg (by decide)]
        | true =>
          rw [if_pos rfl, spec_letter, Option.bind_some]
          cases h3 : letterB (l.getD i z80).f3 with
          | false => rw [if_neg (by decide)]
          | true => rw [h0, h1, h2, h3] at hp; simp at hp
theorem impl_edges (n : Nat) (l : List IE) (hn : n ≤ 1048576) (hl : l.length ≤ 1048576) : Ev (fun k => impl_ValidTransducer.l0 k (n : Int) l (l.length : Int) 0) (edgesB n l) := by
  have w : wrap64 ((n : Int) - 1) = (n : Int) - 1 := wrap_id (by omega) (by omega)
  refine ev_all (fun k i => impl_ValidTransducer.l0 k n l (l.length : Int) i) l.length _ (ev_const (fun k => by simp [impl_ValidTransducer.l0])) (fun i hi hp r H => ?_) (fun i hi hp => ?_)
  · have e : rd_T80 l (i : Int) = l.getD i z80 := rfl
    unfold edgeB at hp
    simp only [Bool.and_eq_true] at hp
    obtain ⟨⟨⟨h0, h1⟩, h2⟩, h3⟩ := hp
    refine ev_step (fun k => ?_) H
    simp only [impl_ValidTransducer.l0]
    rw [if_pos (by omega), if_pos (by omega), if_pos (by omega), e, w, impl_in, h0, Option.bind_some, if_pos rfl, impl_in, h1, Option.bind_some, if_pos rfl, impl_letter, h2, Option.bind_some, if_pos rfl, impl_letter, h3, Option.bind_some, if_pos rfl, wrap_up (by omega)]
  · have e : rd_T80 l (i : Int) = l.getD i z80 := rfl
    refine ev_const (fun k => ?_)
    simp only [impl_ValidTransducer.l0]
    rw [if_pos (by omega), if_pos (by omega), if_pos (by omega), e, w, impl_in, Option.bind_some]
    unfold edgeB at hp
    cases h0 : inB (l.getD i z80).f0 n with
    | false => rw [if_neg (by decide)]
    | true =>
      rw [if_pos rfl, impl_in, Option.bind_some]
      cases h1 : inB (l.getD i z80).f1 n with
      | false => rw [if_neg (by decide)]
      | true =>
        rw [if_pos rfl, impl_letter, Option.bind_some]
        cases h2 : letterB (l.getD i z80).f2 with
        | false => rw [if_neg (by decide)]
        | true =>
          rw [if_pos rfl, impl_letter, Option.bind_some]
          cases h3 : letterB (l.getD i z80).f3 with
          | false => rw [if_neg (by decide)]
          | true => rw [h0, h1, h2, h3] at hp; simp at hp
/-- Is it a transducer? -/
def validT (s : Int) (a : List Bool) (l : List IE) : Bool := decide (a.length ≤ 40 ∧ l.length ≤ 200) && inB s a.length && edgesB a.length l
theorem spec_ok_ev (s : Int) (a : List Bool) (l : List IE) : Ev (fun k => spec_l06Ok.f k s a l) (validT s a l) := by
  unfold spec_l06Ok.f validT
  by_cases h1 : (a.length : Int) ≤ 40
  · refine ev_ift h1 ?_
    by_cases h2 : (l.length : Int) ≤ 200
    · refine ev_ift h2 ?_
      have w : wrap64 ((a.length : Int) - 1) = (a.length : Int) - 1 := wrap_id (by omega) (by omega)
      rw [decide_eq_true (show a.length ≤ 40 ∧ l.length ≤ 200 by omega), Bool.true_and]
      unfold spec_l06Form.f
      rw [w, spec_in]
      refine Ev.bind (a := inB s a.length && edgesB a.length l) ?_ (Ev.now _)
      simp only [Option.bind_some]
      cases h3 : inB s a.length with
      | false => exact ev_iff (by decide) (Ev.now _)
      | true => exact ev_ift rfl (by simpa using spec_edges a.length s a l (by omega) (by omega))
    · rw [decide_eq_false (by omega), Bool.false_and, Bool.false_and]; exact ev_iff h2 (Ev.now _)
  · rw [decide_eq_false (by omega), Bool.false_and, Bool.false_and]; exact ev_iff h1 (Ev.now _)
theorem impl_ok_ev (s : Int) (a : List Bool) (l : List IE) (ha : a.length ≤ 1048576) : Ev (fun k => impl_ValidTransducer.f k s a l) (validT s a l) := by
  unfold impl_ValidTransducer.f validT
  have no : Ev (fun k => impl_ValidTransducer.j0 k (a.length : Int) true s a l) false := ev_const (fun k => by simp only [impl_ValidTransducer.j0]; rw [if_pos trivial])
  have w : wrap64 ((a.length : Int) - 1) = (a.length : Int) - 1 := wrap_id (by omega) (by omega)
  have hw : impl_within.f (a.length : Int) 1 40 = some (decide (1 ≤ a.length ∧ a.length ≤ 40)) := by
    unfold impl_within.f
    by_cases h : 1 ≤ (a.length : Int)
    · rw [if_pos h]; congr 1; exact decide_eq_decide.2 (by omega)
    · rw [if_neg h]; congr 1; exact (decide_eq_false (by omega)).symm
  rw [hw, w, impl_in]
  simp only [Option.bind_some]
  by_cases h1 : 1 ≤ a.length ∧ a.length ≤ 40
  · rw [decide_eq_true h1]
    refine ev_ift rfl ?_
    cases h3 : inB s a.length with
    | false => rw [Bool.and_false, Bool.false_and]; exact ev_iff (by decide) no
    | true =>
      refine ev_ift rfl ?_
      by_cases h2 : l.length ≤ 200
      · rw [decide_eq_true (show a.length ≤ 40 ∧ l.length ≤ 200 by omega), Bool.true_and, Bool.true_and, show decide ((l.length : Int) > 200) = false by simp; omega]
        exact ev_step (fun k => by simp only [impl_ValidTransducer.j0]; rw [if_neg (by decide)]) (impl_edges a.length l (by omega) (by omega))
      · rw [decide_eq_false (show ¬ (a.length ≤ 40 ∧ l.length ≤ 200) by omega), Bool.false_and, Bool.false_and, show decide ((l.length : Int) > 200) = true by simp; omega]
        exact no
  · rw [decide_eq_false h1]
    refine ev_iff (by decide) ?_
    have e : (decide (a.length ≤ 40 ∧ l.length ≤ 200) && inB s a.length && edgesB a.length l) = false := by
      by_cases h2 : a.length ≤ 40
      · have h3 : inB s a.length = false := by unfold inB; rw [decide_eq_false (by omega)]
        rw [h3, Bool.and_false, Bool.false_and]
      · rw [decide_eq_false (by omega), Bool.false_and, Bool.false_and]
    rw [e]; exact no
end Go.Proofs.YtjclfbcofclopaaDoor.PureTr
