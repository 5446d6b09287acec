/- ValidScribe of the program and of the reference come to the same; the two laws answer true. No condition. -/
import Derived.Test.YtjclfbcofclopaaDoorPureRs
namespace Go.Proofs.YtjclfbcofclopaaDoor.PureSc
set_option linter.unusedVariables false
set_option linter.unusedSimpArgs false
open Go.RowKit Go.Proofs.YtjclfbcofclopaaDoorW.PrintWords Go.Proofs.YtjclfbcofclopaaDoorW.PrintLast Go.Proofs.YtjclfbcofclopaaDoorW.PrintMore Go.Proofs.YtjclfbcofclopaaDoor.Sc Go.Proofs.YtjclfbcofclopaaDoor.PScA Go.Proofs.YtjclfbcofclopaaDoor.Pure
theorem w01 : wrap64 (0 + 1) = 1 := (wrap_id (i := 0 + 1) (by decide) (by decide)).trans (by decide)
theorem w12 : wrap64 (1 + 1) = 2 := (wrap_id (i := 1 + 1) (by decide) (by decide)).trans (by decide)
/-- One cell of a scribe. -/
def okC (n a : Int) (s : ByteArray) : Bool := (decide (a = -1) && s.toList == []) || (decide (0 ≤ a) && decide (a ≤ n - 1) && (s.toList == [97] || s.toList == [98]))
theorem spec_j3_yes {n i a x5 : Int} {s : ByteArray} {t : Bool} {l0 : List Bool} {b : List I2} {c : List T2} {r : Bool} (hn : 0 ≤ n ∧ n ≤ 1048576) (h : t = true ∨ (0 ≤ a ∧ a ≤ n - 1 ∧ (s.toList = [97] ∨ s.toList = [98])))
    (H : Ev (fun k => spec_l07Ok.l1 k n i (wrap64 (x5 + 1)) l0 b c) r) : Ev (fun k => spec_l07Ok.j3 k n i x5 a s t l0 b c) r ∧ Ev (fun k => spec_l07Ok.j4 k n i x5 a s t l0 b c) r := by
  have w : wrap64 (n - 1) = n - 1 := wrap_id (by omega) (by omega)
  cases t with
  | true => exact ⟨ev_step (fun k => by simp only [spec_l07Ok.j3]; rw [if_pos trivial]) H, ev_step (fun k => by simp only [spec_l07Ok.j4]; rw [if_pos trivial]) H⟩
  | false =>
    rcases h with h | ⟨h1, h2, h3⟩
    · cases h
    · have hin : spec_l00In.f a 0 (wrap64 (n - 1)) = some true := by unfold spec_l00In.f; rw [w, if_pos h1]; simp [h2]
      rcases h3 with h3 | h3
      · exact ⟨ev_step (fun k => by simp only [spec_l07Ok.j3]; rw [if_neg (by simp), hin]; simp only [Option.bind_some]; rw [if_pos trivial, if_pos h3]) H, ev_step (fun k => by simp only [spec_l07Ok.j4]; rw [if_neg (by simp), hin]; simp only [Option.bind_some]; rw [if_pos trivial, if_pos h3]) H⟩
      · have h4 : ¬ s.toList = [97] := by rw [h3]; decide
        exact ⟨ev_step (fun k => by simp only [spec_l07Ok.j3]; rw [if_neg (by simp), hin]; simp only [Option.bind_some]; rw [if_pos trivial, if_neg h4, if_pos h3]) H, ev_step (fun k => by simp only [spec_l07Ok.j4]; rw [if_neg (by simp), hin]; simp only [Option.bind_some]; rw [if_pos trivial, if_neg h4, if_pos h3]) H⟩
theorem spec_j3_no {n i a x5 : Int} {s : ByteArray} {l0 : List Bool} {b : List I2} {c : List T2} (hn : 0 ≤ n ∧ n ≤ 1048576) (h : ¬ (0 ≤ a ∧ a ≤ n - 1 ∧ (s.toList = [97] ∨ s.toList = [98]))) :
    Ev (fun k => spec_l07Ok.j3 k n i x5 a s false l0 b c) false ∧ Ev (fun k => spec_l07Ok.j4 k n i x5 a s false l0 b c) false := by
  have w : wrap64 (n - 1) = n - 1 := wrap_id (by omega) (by omega)
  by_cases hin : 0 ≤ a ∧ a ≤ n - 1
  · have e : spec_l00In.f a 0 (wrap64 (n - 1)) = some true := by unfold spec_l00In.f; rw [w, if_pos hin.1]; simp [hin.2]
    have h3 : ¬ s.toList = [97] := fun e => h ⟨hin.1, hin.2, .inl e⟩
    have h4 : ¬ s.toList = [98] := fun e => h ⟨hin.1, hin.2, .inr e⟩
    exact ⟨ev_const (fun k => by simp only [spec_l07Ok.j3]; rw [if_neg (by simp), e]; simp only [Option.bind_some]; rw [if_pos trivial, if_neg h3, if_neg h4]), ev_const (fun k => by simp only [spec_l07Ok.j4]; rw [if_neg (by simp), e]; simp only [Option.bind_some]; rw [if_pos trivial, if_neg h3, if_neg h4])⟩
  · have e : spec_l00In.f a 0 (wrap64 (n - 1)) = some false := by
      unfold spec_l00In.f; rw [w]
      by_cases q : a ≥ 0
      · rw [if_pos q]; simp; omega
      · rw [if_neg q]
    exact ⟨ev_const (fun k => by simp only [spec_l07Ok.j3]; rw [if_neg (by simp), e]; simp), ev_const (fun k => by simp only [spec_l07Ok.j4]; rw [if_neg (by simp), e]; simp)⟩
theorem ok_yes {n a : Int} {s : ByteArray} (h : okC n a s = true) (h2 : ¬ (a = -1 ∧ s.toList = [])) : 0 ≤ a ∧ a ≤ n - 1 ∧ (s.toList = [97] ∨ s.toList = [98]) := by
  simp only [okC, Bool.or_eq_true, Bool.and_eq_true, decide_eq_true_eq, beq_iff_eq] at h
  rcases h with h | ⟨⟨h, h'⟩, h''⟩
  · exact absurd h h2
  · exact ⟨h, h', h''⟩
theorem ok_no {n a : Int} {s : ByteArray} (h : okC n a s = false) : ¬ (a = -1 ∧ s.toList = []) ∧ ¬ (0 ≤ a ∧ a ≤ n - 1 ∧ (s.toList = [97] ∨ s.toList = [98])) := by
  have h' : ¬ okC n a s = true := by rw [h]; decide
  simp only [okC, Bool.or_eq_true, Bool.and_eq_true, decide_eq_true_eq, beq_iff_eq] at h'
  exact ⟨fun e => h' (.inl e), fun e => h' (.inr ⟨⟨e.1, e.2.1⟩, e.2.2⟩)⟩
section
variable {n : Int} {i : Nat} {l0 : List Bool} {b : List I2} {c : List T2} {r : Bool} (hn : 0 ≤ n ∧ n ≤ 1048576) (hb : i < b.length) (hc : i < c.length)
include hn hb hc
theorem spec_c0 : (okC n (b.getD i z91).f0 (c.getD i z92).f0 = true → Ev (fun k => spec_l07Ok.l1 k n i 1 l0 b c) r → Ev (fun k => spec_l07Ok.l1 k n i 0 l0 b c) r) ∧ (okC n (b.getD i z91).f0 (c.getD i z92).f0 = false → Ev (fun k => spec_l07Ok.l1 k n i 0 l0 b c) false) := by
  have eb : rd_T91 b (i : Int) = b.getD i z91 := rfl
  have ec : rd_T92 c (i : Int) = c.getD i z92 := rfl
  by_cases q : (b.getD i z91).f0 = -1
  · have go : ∀ r, Ev (fun k => spec_l07Ok.j3 k n i 0 (b.getD i z91).f0 (c.getD i z92).f0 ((c.getD i z92).f0.toList == []) l0 b c) r → Ev (fun k => spec_l07Ok.l1 k n i 0 l0 b c) r := fun r H => ev_step (fun k => by
      simp only [spec_l07Ok.l1]; rw [if_pos (by omega), if_pos (by omega), if_pos (by omega), if_pos trivial, if_pos (by omega), eb, ec, if_pos q]) H
    refine ⟨fun h H => go _ (spec_j3_yes hn ?_ (by rw [w01]; exact H)).1, fun h => go _ ?_⟩
    · by_cases z : (c.getD i z92).f0.toList = []
      · exact .inl (by simpa using z)
      · exact .inr (ok_yes h (fun e => z e.2))
    · have := ok_no h
      have z : ((c.getD i z92).f0.toList == []) = false := by simpa using fun e => this.1 ⟨q, e⟩
      rw [z]; exact (spec_j3_no hn this.2).1
  · have go : ∀ r, Ev (fun k => spec_l07Ok.j3 k n i 0 (b.getD i z91).f0 (c.getD i z92).f0 false l0 b c) r → Ev (fun k => spec_l07Ok.l1 k n i 0 l0 b c) r := fun r H => ev_step (fun k => by
      simp only [spec_l07Ok.l1]; rw [if_pos (by omega), if_pos (by omega), if_pos (by omega), if_pos trivial, if_pos (by omega), eb, ec, if_neg q]) H
    exact ⟨fun h H => go _ (spec_j3_yes hn (.inr (ok_yes h (fun e => q e.1))) (by rw [w01]; exact H)).1, fun h => go _ (spec_j3_no hn (ok_no h).2).1⟩
theorem spec_c1 : (okC n (b.getD i z91).f1 (c.getD i z92).f1 = true → Ev (fun k => spec_l07Ok.l1 k n i 2 l0 b c) r → Ev (fun k => spec_l07Ok.l1 k n i 1 l0 b c) r) ∧ (okC n (b.getD i z91).f1 (c.getD i z92).f1 = false → Ev (fun k => spec_l07Ok.l1 k n i 1 l0 b c) false) := by
  have eb : rd_T91 b (i : Int) = b.getD i z91 := rfl
  have ec : rd_T92 c (i : Int) = c.getD i z92 := rfl
  by_cases q : (b.getD i z91).f1 = -1
  · have go : ∀ r, Ev (fun k => spec_l07Ok.j4 k n i 1 (b.getD i z91).f1 (c.getD i z92).f1 ((c.getD i z92).f1.toList == []) l0 b c) r → Ev (fun k => spec_l07Ok.l1 k n i 1 l0 b c) r := fun r H => ev_step (fun k => by
      simp only [spec_l07Ok.l1]; rw [if_pos (by omega), if_pos (by omega), if_pos (by omega), if_neg (by decide), if_pos trivial, if_pos (by omega), eb, ec, if_pos q]) H
    refine ⟨fun h H => go _ (spec_j3_yes hn ?_ (by rw [w12]; exact H)).2, fun h => go _ ?_⟩
    · by_cases z : (c.getD i z92).f1.toList = []
      · exact .inl (by simpa using z)
      · exact .inr (ok_yes h (fun e => z e.2))
    · have := ok_no h
      have z : ((c.getD i z92).f1.toList == []) = false := by simpa using fun e => this.1 ⟨q, e⟩
      rw [z]; exact (spec_j3_no hn this.2).2
  · have go : ∀ r, Ev (fun k => spec_l07Ok.j4 k n i 1 (b.getD i z91).f1 (c.getD i z92).f1 false l0 b c) r → Ev (fun k => spec_l07Ok.l1 k n i 1 l0 b c) r := fun r H => ev_step (fun k => by
      simp only [spec_l07Ok.l1]; rw [if_pos (by omega), if_pos (by omega), if_pos (by omega), if_neg (by decide), if_pos trivial, if_pos (by omega), eb, ec, if_neg q]) H
    exact ⟨fun h H => go _ (spec_j3_yes hn (.inr (ok_yes h (fun e => q e.1))) (by rw [w12]; exact H)).2, fun h => go _ (spec_j3_no hn (ok_no h).2).2⟩
end
def rowsOk (n : Nat) (b : List I2) (c : List T2) : Bool := (List.range n).all fun i => okC n (b.getD i z91).f0 (c.getD i z92).f0 && okC n (b.getD i z91).f1 (c.getD i z92).f1
theorem spec_rows (n : Nat) (l0 : List Bool) (b : List I2) (c : List T2) (hn : n ≤ 1048576) (hb : b.length = n) (hc : c.length = n) : Ev (fun k => spec_l07Ok.l0 k n 0 l0 b c) (rowsOk n b c) := by
  have hn' : (0 : Int) ≤ n ∧ (n : Int) ≤ 1048576 := by omega
  refine ev_all (fun k i => spec_l07Ok.l0 k n i l0 b c) n _ (ev_const (fun k => by simp [spec_l07Ok.l0])) (fun i hi hp r H => ?_) (fun i hi hp => ?_)
  · rw [Bool.and_eq_true] at hp
    have h2 : Ev (fun k => spec_l07Ok.l1 k n i 2 l0 b c) r := ev_step (fun k => by simp only [spec_l07Ok.l1]; rw [if_neg (by omega), wrap_up (by omega)]) H
    exact ev_step (fun k => by simp only [spec_l07Ok.l0]; rw [if_pos (by omega)]) ((spec_c0 hn' (by omega) (by omega)).1 hp.1 ((spec_c1 hn' (by omega) (by omega)).1 hp.2 h2))
  · refine ev_step (f := fun k => spec_l07Ok.l1 k n i 0 l0 b c) (fun k => by simp only [spec_l07Ok.l0]; rw [if_pos (by omega)]) ?_
    rw [Bool.and_eq_false_iff] at hp
    cases h0 : okC n (b.getD i z91).f0 (c.getD i z92).f0 with
    | false => exact (spec_c0 (r := false) hn' (by omega) (by omega)).2 h0
    | true =>
      rcases hp with hp | hp
      · rw [h0] at hp; cases hp
      · exact (spec_c0 hn' (by omega) (by omega)).1 h0 ((spec_c1 (r := false) hn' (by omega) (by omega)).2 hp)
def validB (a : List Bool) (b : List I2) (c : List T2) : Bool := decide (1 ≤ a.length ∧ a.length ≤ 150 ∧ b.length = a.length ∧ c.length = a.length) && rowsOk a.length b c
theorem spec_valid_ev (a : List Bool) (b : List I2) (c : List T2) : Ev (fun k => spec_l07Ok.f k a b c) (validB a b c) := by
  have no : Ev (fun k => spec_l07Ok.j0 k (a.length : Int) true a b c) false := ev_const (fun k => by simp only [spec_l07Ok.j0]; rw [if_pos trivial])
  by_cases h1 : a.length < 1
  · have e : validB a b c = false := by unfold validB; rw [decide_eq_false (by omega), Bool.false_and]
    rw [e]; exact Ev.congr (fun k => by unfold spec_l07Ok.f; rw [if_pos (by omega)]) no
  · by_cases h2 : a.length > 150
    · have e : validB a b c = false := by unfold validB; rw [decide_eq_false (by omega), Bool.false_and]
      rw [e]; exact Ev.congr (fun k => by unfold spec_l07Ok.f; rw [if_neg (by omega), if_pos (by omega)]) no
    · by_cases h3 : b.length = a.length
      · by_cases h4 : c.length = a.length
        · have e : validB a b c = rowsOk a.length b c := by unfold validB; rw [decide_eq_true (by omega), Bool.true_and]
          rw [e]
          refine Ev.congr (f := fun k => spec_l07Ok.j0 k (a.length : Int) false a b c) (fun k => by unfold spec_l07Ok.f; rw [if_neg (by omega), if_neg (by omega), if_pos (by omega), h4]; simp) ?_
          exact ev_step (fun k => by simp only [spec_l07Ok.j0]; rw [if_neg (by simp)]) (spec_rows a.length a b c (by omega) h3 h4)
        · have e : validB a b c = false := by unfold validB; rw [decide_eq_false (by omega), Bool.false_and]
          rw [e]; exact Ev.congr (fun k => by unfold spec_l07Ok.f; rw [if_neg (by omega), if_neg (by omega), if_pos (by omega), show ((c.length : Int) != (a.length : Int)) = true by simp; omega]) no
      · have e : validB a b c = false := by unfold validB; rw [decide_eq_false (by omega), Bool.false_and]
        rw [e]; exact Ev.congr (fun k => by unfold spec_l07Ok.f; rw [if_neg (by omega), if_neg (by omega), if_neg (by omega)]) no
theorem impl_j3_yes {n i a x38 x30l a0 a1 : Int} {s : ByteArray} {t : Bool} {l0 : List Bool} {b : List I2} {c : List T2} {r : Bool} (hn : 0 ≤ n ∧ n ≤ 1048576) (h : t = true ∨ (0 ≤ a ∧ a ≤ n - 1 ∧ (s.toList = [97] ∨ s.toList = [98])))
    (H : Ev (fun k => impl_ValidScribe.l1 k n i b x30l i (wrap64 (x38 + 1)) a0 a1 l0 b c) r) : Ev (fun k => impl_ValidScribe.j3 k n i a s b x30l i x38 t a0 a1 l0 b c) r ∧ Ev (fun k => impl_ValidScribe.j4 k n i a s b x30l i x38 t a0 a1 l0 b c) r := by
  have w : wrap64 (n - 1) = n - 1 := wrap_id (by omega) (by omega)
  cases t with
  | true => exact ⟨ev_step (fun k => by simp only [impl_ValidScribe.j3]; rw [if_pos trivial]) H, ev_step (fun k => by simp only [impl_ValidScribe.j4]; rw [if_pos trivial]) H⟩
  | false =>
    rcases h with h | ⟨h1, h2, h3⟩
    · cases h
    · have hin : impl_within.f a 0 (wrap64 (n - 1)) = some true := by unfold impl_within.f; rw [w, if_pos h1]; simp [h2]
      rcases h3 with h3 | h3
      · exact ⟨ev_step (fun k => by simp only [impl_ValidScribe.j3]; rw [if_neg (by simp), hin]; simp only [Option.bind_some]; rw [if_pos trivial, if_pos h3]) H, ev_step (fun k => by simp only [impl_ValidScribe.j4]; rw [if_neg (by simp), hin]; simp only [Option.bind_some]; rw [if_pos trivial, if_pos h3]) H⟩
      · have h4 : ¬ s.toList = [97] := by rw [h3]; decide
        exact ⟨ev_step (fun k => by simp only [impl_ValidScribe.j3]; rw [if_neg (by simp), hin]; simp only [Option.bind_some]; rw [if_pos trivial, if_neg h4, if_pos h3]) H, ev_step (fun k => by simp only [impl_ValidScribe.j4]; rw [if_neg (by simp), hin]; simp only [Option.bind_some]; rw [if_pos trivial, if_neg h4, if_pos h3]) H⟩
theorem impl_j3_no {n i a x38 x30l a0 a1 : Int} {s : ByteArray} {l0 : List Bool} {b : List I2} {c : List T2} (hn : 0 ≤ n ∧ n ≤ 1048576) (h : ¬ (0 ≤ a ∧ a ≤ n - 1 ∧ (s.toList = [97] ∨ s.toList = [98]))) :
    Ev (fun k => impl_ValidScribe.j3 k n i a s b x30l i x38 false a0 a1 l0 b c) false ∧ Ev (fun k => impl_ValidScribe.j4 k n i a s b x30l i x38 false a0 a1 l0 b c) false := by
  have w : wrap64 (n - 1) = n - 1 := wrap_id (by omega) (by omega)
  by_cases hin : 0 ≤ a ∧ a ≤ n - 1
  · have e : impl_within.f a 0 (wrap64 (n - 1)) = some true := by unfold impl_within.f; rw [w, if_pos hin.1]; simp [hin.2]
    have h3 : ¬ s.toList = [97] := fun e => h ⟨hin.1, hin.2, .inl e⟩
    have h4 : ¬ s.toList = [98] := fun e => h ⟨hin.1, hin.2, .inr e⟩
    exact ⟨ev_const (fun k => by simp only [impl_ValidScribe.j3]; rw [if_neg (by simp), e]; simp only [Option.bind_some]; rw [if_pos trivial, if_neg h3, if_neg h4]), ev_const (fun k => by simp only [impl_ValidScribe.j4]; rw [if_neg (by simp), e]; simp only [Option.bind_some]; rw [if_pos trivial, if_neg h3, if_neg h4])⟩
  · have e : impl_within.f a 0 (wrap64 (n - 1)) = some false := by
      unfold impl_within.f; rw [w]
      by_cases q : a ≥ 0
      · rw [if_pos q]; simp; omega
      · rw [if_neg q]
    exact ⟨ev_const (fun k => by simp only [impl_ValidScribe.j3]; rw [if_neg (by simp), e]; simp), ev_const (fun k => by simp only [impl_ValidScribe.j4]; rw [if_neg (by simp), e]; simp)⟩
section
variable {n : Int} {i : Nat} {l0 : List Bool} {b : List I2} {c : List T2} {r : Bool} (hn : 0 ≤ n ∧ n ≤ 1048576) (hc : i < c.length)
include hn hc
theorem impl_c0 : (okC n (b.getD i z91).f0 (c.getD i z92).f0 = true → Ev (fun k => impl_ValidScribe.l1 k n i b b.length i 1 (b.getD i z91).f0 (b.getD i z91).f1 l0 b c) r → Ev (fun k => impl_ValidScribe.l1 k n i b b.length i 0 (b.getD i z91).f0 (b.getD i z91).f1 l0 b c) r) ∧ (okC n (b.getD i z91).f0 (c.getD i z92).f0 = false → Ev (fun k => impl_ValidScribe.l1 k n i b b.length i 0 (b.getD i z91).f0 (b.getD i z91).f1 l0 b c) false) := by
  have ec : rd_T92 c (i : Int) = c.getD i z92 := rfl
  by_cases q : (b.getD i z91).f0 = -1
  · have go : ∀ r, Ev (fun k => impl_ValidScribe.j3 k n i (b.getD i z91).f0 (c.getD i z92).f0 b b.length i 0 ((c.getD i z92).f0.toList == []) (b.getD i z91).f0 (b.getD i z91).f1 l0 b c) r → Ev (fun k => impl_ValidScribe.l1 k n i b b.length i 0 (b.getD i z91).f0 (b.getD i z91).f1 l0 b c) r := fun r H => ev_step (fun k => by
      simp only [impl_ValidScribe.l1]; rw [if_pos (by omega), if_pos trivial, if_pos (by omega), if_pos (by omega), ec, if_pos q]) H
    refine ⟨fun h H => go _ (impl_j3_yes hn ?_ (by rw [w01]; exact H)).1, fun h => go _ ?_⟩
    · by_cases z : (c.getD i z92).f0.toList = []
      · exact .inl (by simpa using z)
      · exact .inr (ok_yes h (fun e => z e.2))
    · have := ok_no h
      have z : ((c.getD i z92).f0.toList == []) = false := by simpa using fun e => this.1 ⟨q, e⟩
      rw [z]; exact (impl_j3_no hn this.2).1
  · have go : ∀ r, Ev (fun k => impl_ValidScribe.j3 k n i (b.getD i z91).f0 (c.getD i z92).f0 b b.length i 0 false (b.getD i z91).f0 (b.getD i z91).f1 l0 b c) r → Ev (fun k => impl_ValidScribe.l1 k n i b b.length i 0 (b.getD i z91).f0 (b.getD i z91).f1 l0 b c) r := fun r H => ev_step (fun k => by
      simp only [impl_ValidScribe.l1]; rw [if_pos (by omega), if_pos trivial, if_pos (by omega), if_pos (by omega), ec, if_neg q]) H
    exact ⟨fun h H => go _ (impl_j3_yes hn (.inr (ok_yes h (fun e => q e.1))) (by rw [w01]; exact H)).1, fun h => go _ (impl_j3_no hn (ok_no h).2).1⟩
theorem impl_c1 : (okC n (b.getD i z91).f1 (c.getD i z92).f1 = true → Ev (fun k => impl_ValidScribe.l1 k n i b b.length i 2 (b.getD i z91).f0 (b.getD i z91).f1 l0 b c) r → Ev (fun k => impl_ValidScribe.l1 k n i b b.length i 1 (b.getD i z91).f0 (b.getD i z91).f1 l0 b c) r) ∧ (okC n (b.getD i z91).f1 (c.getD i z92).f1 = false → Ev (fun k => impl_ValidScribe.l1 k n i b b.length i 1 (b.getD i z91).f0 (b.getD i z91).f1 l0 b c) false) := by
  have ec : rd_T92 c (i : Int) = c.getD i z92 := rfl
  by_cases q : (b.getD i z91).f1 = -1
  · have go : ∀ r, Ev (fun k => impl_ValidScribe.j4 k n i (b.getD i z91).f1 (c.getD i z92).f1 b b.length i 1 ((c.getD i z92).f1.toList == []) (b.getD i z91).f0 (b.getD i z91).f1 l0 b c) r → Ev (fun k => impl_ValidScribe.l1 k n i b b.length i 1 (b.getD i z91).f0 (b.getD i z91).f1 l0 b c) r := fun r H => ev_step (fun k => by
      simp only [impl_ValidScribe.l1]; rw [if_pos (by omega), if_neg (by decide), if_pos trivial, if_pos (by omega), if_pos (by omega), ec, if_pos q]) H
    refine ⟨fun h H => go _ (impl_j3_yes hn ?_ (by rw [w12]; exact H)).2, fun h => go _ ?_⟩
    · by_cases z : (c.getD i z92).f1.toList = []
      · exact .inl (by simpa using z)
      · exact .inr (ok_yes h (fun e => z e.2))
    · have := ok_no h
      have z : ((c.getD i z92).f1.toList == []) = false := by simpa using fun e => this.1 ⟨q, e⟩
      rw [z]; exact (impl_j3_no hn this.2).2
  · have go : ∀ r, Ev (fun k => impl_ValidScribe.j4 k n i (b.getD i z91).f1 (c.getD i z92).f1 b b.length i 1 false (b.getD i z91).f0 (b.getD i z91).f1 l0 b c) r → Ev (fun k => impl_ValidScribe.l1 k n i b b.length i 1 (b.getD i z91).f0 (b.getD i z91).f1 l0 b c) r := fun r H => ev_step (fun k => by
      simp only [impl_ValidScribe.l1]; rw [if_pos (by omega), if_neg (by decide), if_pos trivial, if_pos (by omega), if_pos (by omega), ec, if_neg q]) H
    exact ⟨fun h H => go _ (impl_j3_yes hn (.inr (ok_yes h (fun e => q e.1))) (by rw [w12]; exact H)).2, fun h => go _ (impl_j3_no hn (ok_no h).2).2⟩
end
theorem impl_rows (n : Nat) (l0 : List Bool) (b : List I2) (c : List T2) (hn : n ≤ 1048576) (hb : b.length = n) (hc : c.length = n) : Ev (fun k => impl_ValidScribe.l0 k n b (b.length : Int) 0 l0 b c) (rowsOk n b c) := by
  have hn' : (0 : Int) ≤ n ∧ (n : Int) ≤ 1048576 := by omega
  have enter : ∀ (i : Nat) r, i < n → Ev (fun k => impl_ValidScribe.l1 k n i b b.length i 0 (b.getD i z91).f0 (b.getD i z91).f1 l0 b c) r → Ev (fun k => impl_ValidScribe.l0 k n b (b.length : Int) i l0 b c) r := fun i r hi H => ev_step (fun k => by
    simp only [impl_ValidScribe.l0]; rw [if_pos (by omega), if_pos (by omega), if_pos (by omega)]; rfl) H
  refine ev_all (fun k i => impl_ValidScribe.l0 k n b (b.length : Int) i l0 b c) n _ (ev_const (fun k => by simp [impl_ValidScribe.l0, hb])) (fun i hi hp r H => ?_) (fun i hi hp => ?_)
  · rw [Bool.and_eq_true] at hp
    have h2 : Ev (fun k => impl_ValidScribe.l1 k n i b b.length i 2 (b.getD i z91).f0 (b.getD i z91).f1 l0 b c) r := ev_step (fun k => by simp only [impl_ValidScribe.l1]; rw [if_neg (by omega), wrap_up (by omega)]) H
    exact enter i r hi ((impl_c0 hn' (by omega)).1 hp.1 ((impl_c1 hn' (by omega)).1 hp.2 h2))
  · refine enter i _ hi ?_
    rw [Bool.and_eq_false_iff] at hp
    cases h0 : okC n (b.getD i z91).f0 (c.getD i z92).f0 with
    | false => exact (impl_c0 (r := false) hn' (by omega)).2 h0
    | true =>
      rcases hp with hp | hp
      · rw [h0] at hp; cases hp
      · exact (impl_c0 hn' (by omega)).1 h0 ((impl_c1 (r := false) hn' (by omega)).2 hp)
theorem impl_valid_ev (a : List Bool) (b : List I2) (c : List T2) (_ha : a.length ≤ 1048576) : Ev (fun k => impl_ValidScribe.f k a b c) (validB a b c) := by
  have no : Ev (fun k => impl_ValidScribe.j0 k (a.length : Int) true a b c) false := ev_const (fun k => by simp only [impl_ValidScribe.j0]; rw [if_pos trivial])
  by_cases h1 : 1 ≤ a.length ∧ a.length ≤ 150
  · have hw : impl_within.f (a.length : Int) 1 150 = some true := by unfold impl_within.f; rw [if_pos (by omega)]; simp; omega
    by_cases h3 : b.length = a.length
    · by_cases h4 : c.length = a.length
      · have e : validB a b c = rowsOk a.length b c := by unfold validB; rw [decide_eq_true (by omega), Bool.true_and]
        rw [e]
        refine Ev.congr (f := fun k => impl_ValidScribe.j0 k (a.length : Int) false a b c) (fun k => by unfold impl_ValidScribe.f; rw [hw]; simp only [Option.bind_some]; rw [if_pos trivial, if_pos (by omega), h4]; simp) ?_
        exact ev_step (fun k => by simp only [impl_ValidScribe.j0]; rw [if_neg (by simp)]) (impl_rows a.length a b c (by omega) h3 h4)
      · have e : validB a b c = false := by unfold validB; rw [decide_eq_false (by omega), Bool.false_and]
        rw [e]; exact Ev.congr (fun k => by unfold impl_ValidScribe.f; rw [hw]; simp only [Option.bind_some]; rw [if_pos trivial, if_pos (by omega), show ((c.length : Int) != (a.length : Int)) = true by simp; omega]) no
    · have e : validB a b c = false := by unfold validB; rw [decide_eq_false (by omega), Bool.false_and]
      rw [e]; exact Ev.congr (fun k => by unfold impl_ValidScribe.f; rw [hw]; simp only [Option.bind_some]; rw [if_pos trivial, if_neg (by omega)]) no
  · have hw : impl_within.f (a.length : Int) 1 150 = some false := by
      unfold impl_within.f
      by_cases q : 1 ≤ (a.length : Int)
      · rw [if_pos q]; simp; omega
      · rw [if_neg q]
    have e : validB a b c = false := by unfold validB; rw [decide_eq_false (by omega), Bool.false_and]
    rw [e]; exact Ev.congr (fun k => by unfold impl_ValidScribe.f; rw [hw]; simp only [Option.bind_some]; rw [if_neg (by simp)]) no
end Go.Proofs.YtjclfbcofclopaaDoor.PureSc
