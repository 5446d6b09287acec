/- The texts of a transducer: the program's and the reference's come to the same bytes; the law answers true. No condition. -/
import Derived.Test.YtjclfbcofclopaaDoorPureTr2
import Derived.Test.YtjclfbcofclopaaDoorPTtBx
import Derived.Test.YtjclfbcofclopaaDoorTTextFn
import Derived.Test.YtjclfbcofclopaaDoorReads
namespace Go.Proofs.YtjclfbcofclopaaDoor.PureTr
set_option linter.unusedVariables false
set_option linter.unusedSimpArgs false
open Go.RowKit Go.Proofs.YtjclfbcofclopaaDoorW.PrintWords Go.Proofs.YtjclfbcofclopaaDoorW.PrintLast Go.Proofs.YtjclfbcofclopaaDoorW.PrintMore Go.Proofs.YtjclfbcofclopaaDoor.PTtA Go.Proofs.YtjclfbcofclopaaDoor.PTtB Go.Proofs.YtjclfbcofclopaaDoor.Pure Go.Proofs.YtjclfbcofclopaaDoor.TTx Go.Proofs.YtjclfbcofclopaaDoor.Txt
theorem dec_len : ∀ (k u : Nat), u < 10 ^ (k + 1) → (Lib.decDigits u).length ≤ k + 1
  | k, u, h => by
    rw [Lib.decDigits]
    split
    · simp
    · rename_i h10
      cases k with
      | zero => omega
      | succ k =>
        have := dec_len k (u / 10) (by rw [Nat.pow_succ] at h; omega)
        simp; omega
theorem one_digit (x : Int) (n : Nat) (h : x = (n : Int)) (hn : n < 10) : strOfNums [wrap64 (48 + x) % 256] = ⟨[UInt8.ofNat (48 + n)].toArray⟩ := by
  subst h
  have : wrap64 (48 + (n : Int)) % 256 = ((48 + n : Nat) : Int) := by unfold wrap64; omega
  rw [this]
  show (⟨([((48 + n : Nat) : Int)].map fun n => UInt8.ofNat n.toNat).toArray⟩ : ByteArray) = _
  rw [List.map_cons, List.map_nil, Int.toNat_natCast]
theorem dec_is : ∀ (k u : Nat), u < 10 ^ (k + 1) → k ≤ 17 → spec_Decimal.f (k + 1) (u : Int) = some ⟨(Lib.decDigits u).toArray⟩
  | k, u, h, hk => by
    rw [spec_Decimal.f, Lib.decDigits]
    by_cases h10 : u < 10
    · rw [if_neg (by omega), dif_pos h10, one_digit _ u rfl h10]
    · rw [if_pos (by omega), dif_neg h10]
      have hu : u < 10 ^ 19 := Nat.lt_of_lt_of_le h (Nat.pow_le_pow_right (by decide) (by omega))
      have e1 : wrap64 (Int.tdiv (u : Int) 10) = ((u / 10 : Nat) : Int) := by
        have : Int.tdiv (u : Int) 10 = ((u / 10 : Nat) : Int) := by rfl
        rw [this]; unfold wrap64; omega
      have e2 : Int.tmod (u : Int) 10 = ((u % 10 : Nat) : Int) := rfl
      cases k with
      | zero => omega
      | succ k =>
        have h' : u / 10 < 10 ^ (k + 1) := by rw [Nat.pow_succ] at h; omega
        rw [e1, dec_is k (u / 10) h' (by omega), e2]
        simp only [Option.bind_some, one_digit _ (u % 10) rfl (by omega)]
        have hl := dec_len k (u / 10) h'
        rw [if_pos (by simp [ByteArray.size]; omega)]
        congr 1
theorem T_nat (u : Nat) : T (u : Int) = ⟨(Lib.decDigits u).toArray⟩ := by
  unfold T Lib.itoa
  rw [if_neg (by omega)]
  rfl
/-- A small number's text, by the reference. -/
theorem dec_ev (n : Int) (h0 : 0 ≤ n) (h1 : n ≤ 999) : Ev (fun k => spec_Decimal.f k n) (T n) ∧ (T n).size ≤ 4 := by
  obtain ⟨u, rfl⟩ := Int.eq_ofNat_of_zero_le h0
  rw [T_nat]
  refine ⟨Ev.of (g := fun k => spec_Decimal.f k (u : Int)) (fun k => spec_Decimal.mono (u : Int) k) (k := 4) (dec_is 3 u (by omega) (by decide)), ?_⟩
  have := dec_len 3 u (by omega)
  simpa [ByteArray.size] using this
theorem shown_is (a : ByteArray) : spec_l06Shown.f a = some (dashB a) := by unfold spec_l06Shown.f dashB; split <;> rfl
theorem letter_size {a : ByteArray} (h : letterB a = true) : a.size ≤ 1 := by
  have e : a.size = a.toList.length := by rw [Lib.toList_data]; exact Array.length_toList.symm
  unfold letterB at h
  simp only [Bool.or_eq_true, beq_iff_eq] at h
  rcases h with (h | h) | h <;> rw [e, h] <;> simp
/-- What an edge's text asks, in small numbers. -/
def smallE (x : IE) : Prop := (0 ≤ x.f0 ∧ x.f0 ≤ 999) ∧ (0 ≤ x.f1 ∧ x.f1 ≤ 999) ∧ x.f2.size ≤ 1 ∧ x.f3.size ≤ 1
theorem dash1 (a : ByteArray) (h : a.size ≤ 1) : (dashB a).size ≤ 1 := by
  unfold dashB; split
  · decide
  · exact h
theorem append_text (x y : ByteArray) (l : List UInt8) : (⟨((x ++ y).data.toList ++ l).toArray⟩ : ByteArray) = ⟨(x.data.toList ++ (y.data.toList ++ l)).toArray⟩ := by
  simp
theorem spec_l1 (s : Int) (a : List Bool) (l : List IE) (hl : l.length ≤ 200) (hx : ∀ x ∈ l, smallE x) : ∀ d i (t : ByteArray), d + i = l.length → t.size + 100 * d ≤ 1000000 →
    Ev (fun k => spec_TransducerText.l1 k t (i : Int) s a l) ⟨(t.data.toList ++ (l.drop i).flatMap fun x => (edge x).data.toList).toArray⟩ := by
  intro d
  induction d with
  | zero =>
    intro i t hi ht
    rw [List.drop_eq_nil_of_le (by omega), List.flatMap_nil, List.append_nil]
    exact ev_const (fun k => by simp only [spec_TransducerText.l1]; rw [if_neg (by omega)])
  | succ d ih =>
    intro i t hi ht
    have hlt : i < l.length := by omega
    have e : rd_T80 l (i : Int) = l[i] := getD_nat _ _ _ hlt
    obtain ⟨h0, h1, h2, h3⟩ := hx l[i] (List.getElem_mem hlt)
    rw [List.drop_eq_getElem_cons hlt, List.flatMap_cons, ← append_text]
    obtain ⟨c0, z0⟩ := dec_ev l[i].f0 h0.1 h0.2
    obtain ⟨c1, z1⟩ := dec_ev l[i].f1 h1.1 h1.2
    have y2 := dash1 _ h2
    have y3 := dash1 _ h3
    have nx := ih (i + 1) (t ++ edge l[i]) (by omega) (by
      have v1 : (ByteArray.mk #[32]).size = 1 := rfl
      have v2 : (ByteArray.mk #[10]).size = 1 := rfl
      unfold edge
      simp only [ByteArray.size_append]
      omega)
    generalize l[i] = x at *
    have v1 : (ByteArray.mk #[32]).size = 1 := rfl
    have v2 : (ByteArray.mk #[10]).size = 1 := rfl
    refine ev_step (fun k => by simp only [spec_TransducerText.l1]; exact rfl) ?_
    refine ev_ift (by omega) (ev_ift (by omega) ?_)
    simp only [e, shown_is, Option.bind_some]
    refine Ev.bind c0 (ev_ift (by omega) (Ev.bind c1 (ev_ift ?_ (ev_ift ?_ (ev_ift ?_ (ev_ift ?_ (ev_ift ?_ (ev_ift ?_ (ev_ift ?_ ?_)))))))))
    all_goals (first | (simp only [ByteArray.size_append]; omega) | skip)
    rw [wrap_up (by omega)]
    simpa [edge] using nx
theorem append_text2 (x y : ByteArray) (l m : List UInt8) : (⟨(x.data.toList ++ (y.data.toList ++ l) ++ m).toArray⟩ : ByteArray) = ⟨((x ++ y).data.toList ++ l ++ m).toArray⟩ := by
  simp
theorem spec_l0 (s : Int) (a : List Bool) (l : List IE) (ha : a.length ≤ 40) (hl : l.length ≤ 200) (hx : ∀ x ∈ l, smallE x) : ∀ d i (t : ByteArray), d + i = a.length → t.size + 10 * d ≤ 100000 →
    Ev (fun k => spec_TransducerText.l0 k t (i : Int) s a l) ⟨(t.data.toList ++ ((a.drop i).flatMap fun b => (yn b ++ ⟨#[10]⟩).data.toList) ++ l.flatMap fun x => (edge x).data.toList).toArray⟩ := by
  intro d
  induction d with
  | zero =>
    intro i t hi ht
    rw [List.drop_eq_nil_of_le (by omega), List.flatMap_nil, List.append_nil]
    refine ev_step (fun k => by simp only [spec_TransducerText.l0]; rw [if_neg (by omega)]) ?_
    have := spec_l1 s a l hl hx l.length 0 t (by omega) (by omega)
    rw [List.drop_zero] at this
    exact this
  | succ d ih =>
    intro i t hi ht
    have hlt : i < a.length := by omega
    have e : rdOf false a (i : Int) = a[i] := rdOf_nat false a i hlt
    rw [List.drop_eq_getElem_cons hlt, List.flatMap_cons, append_text2]
    refine ev_step (fun k => by simp only [spec_TransducerText.l0]; exact rfl) ?_
    refine ev_ift (by omega) (ev_ift (by omega) ?_)
    rw [e, wrap_up (by omega)]
    cases a[i] with
    | true =>
      have y : yn true ++ (⟨#[10]⟩ : ByteArray) = ⟨#[121, 101, 115, 10]⟩ := rfl
      rw [y]
      have z : (ByteArray.mk #[121, 101, 115, 10]).size = 4 := rfl
      refine ev_ift rfl (ev_ift (by omega) ?_)
      have := ih (i + 1) (t ++ ⟨#[121, 101, 115, 10]⟩) (by omega) (by rw [ByteArray.size_append]; omega)
      simpa using this
    | false =>
      have y : yn false ++ (⟨#[10]⟩ : ByteArray) = ⟨#[110, 111, 10]⟩ := rfl
      rw [y]
      have z : (ByteArray.mk #[110, 111, 10]).size = 3 := rfl
      refine ev_iff (by decide) (ev_ift (by omega) ?_)
      have := ih (i + 1) (t ++ ⟨#[110, 111, 10]⟩) (by omega) (by rw [ByteArray.size_append]; omega)
      simpa using this
theorem small_of {s : Int} {a : List Bool} {l : List IE} (h : validT s a l = true) : a.length ≤ 40 ∧ l.length ≤ 200 ∧ (0 ≤ s ∧ s ≤ 999) ∧ ∀ x ∈ l, smallE x := by
  unfold validT at h
  simp only [Bool.and_eq_true, decide_eq_true_eq] at h
  obtain ⟨⟨⟨h1, h2⟩, h3⟩, h4⟩ := h
  unfold inB at h3
  simp only [decide_eq_true_eq] at h3
  refine ⟨h1, h2, by omega, fun x hx => ?_⟩
  obtain ⟨i, hi, rfl⟩ := List.mem_iff_getElem.1 hx
  have := List.all_eq_true.1 h4 i (List.mem_range.2 hi)
  rw [show l.getD i z80 = l[i] by simp [List.getD, List.getElem?_eq_getElem hi]] at this
  unfold edgeB inB at this
  simp only [Bool.and_eq_true, decide_eq_true_eq] at this
  exact ⟨by omega, by omega, letter_size this.1.2, letter_size this.2⟩
/-- What TransducerText answers. -/
def textB (s : Int) (a : List Bool) (l : List IE) : ByteArray := if validT s a l = true then ttB (T a.length) (T s) a l else ⟨#[]⟩
theorem spec_text_ev (s : Int) (a : List Bool) (l : List IE) : Ev (fun k => spec_TransducerText.f k s a l) (textB s a l) := by
  unfold spec_TransducerText.f textB
  refine Ev.bind (spec_ok_ev s a l) ?_
  by_cases h : validT s a l = true
  · refine ev_ift h ?_
    rw [if_pos h]
    obtain ⟨h1, h2, h3, h4⟩ := small_of h
    obtain ⟨c0, z0⟩ := dec_ev (a.length : Int) (by omega) (by omega)
    obtain ⟨c1, z1⟩ := dec_ev s h3.1 h3.2
    have v0 : (ByteArray.mk #[116, 114, 97, 110, 115, 100, 117, 99, 101, 114, 32]).size = 11 := rfl
    have v1 : (ByteArray.mk #[32]).size = 1 := rfl
    have v2 : (ByteArray.mk #[10]).size = 1 := rfl
    refine Ev.bind c0 (ev_ift (by omega) (ev_ift ?_ (Ev.bind c1 (ev_ift ?_ (ev_ift ?_ ?_)))))
    · simp only [ByteArray.size_append]; omega
    · simp only [ByteArray.size_append]; omega
    · simp only [ByteArray.size_append]; omega
    · have := spec_l0 s a l h1 h2 h4 a.length 0 (⟨#[116, 114, 97, 110, 115, 100, 117, 99, 101, 114, 32]⟩ ++ T a.length ++ ⟨#[32]⟩ ++ T s ++ ⟨#[10]⟩) (by omega) (by simp only [ByteArray.size_append]; omega)
      rw [List.drop_zero] at this
      exact this
  · rw [if_neg h]; exact ev_iff h (Ev.now _)
theorem impl_text_ev (s : Int) (a : List Bool) (l : List IE) (ha : a.length ≤ 1048576) : Ev (fun k => impl_TransducerText.f k s a l) (textB s a l) := by
  unfold impl_TransducerText.f textB
  refine Ev.bind (impl_ok_ev s a l ha) ?_
  by_cases h : validT s a l = true
  · refine ev_ift h ?_
    rw [if_pos h]
    obtain ⟨h1, h2, h3, h4⟩ := small_of h
    have ok : okT s a l := by
      refine ⟨by omega, ?_, ?_, h1, h2, fun x hx => ?_⟩
      · have := (dec_ev s h3.1 h3.2).2; omega
      · have := (dec_ev (a.length : Int) (by omega) (by omega)).2; omega
      · obtain ⟨e0, e1, e2, e3⟩ := h4 x hx
        have y0 := (dec_ev x.f0 e0.1 e0.2).2
        have y1 := (dec_ev x.f1 e1.1 e1.2).2
        exact ⟨by omega, by omega, by omega, by omega, by omega, by omega⟩
    have : impl_transducerText.f s a l = some (ttB (T a.length) (T s) a l) := by unfold impl_transducerText.f; rw [if_pos ok]
    rw [this]
    exact Ev.now _
  · rw [if_neg h, if_neg h]; exact Ev.now _
theorem law_text (s : Int) (a : List Bool) (b : List LE) (ha : a.length ≤ 9223372036854775807) (hb : b.length ≤ 9223372036854775807) (hs : ∀ x ∈ b, x.f2.size ≤ 9223372036854775807 ∧ x.f3.size ≤ 9223372036854775807) : ∃ k, laws_FnExactTransducerText.f k s a b = some true := by
  refine Ev.rounds ?_
  unfold laws_FnExactTransducerText.f
  obtain ⟨r, hr, hrl⟩ := szTr_ev s a b 1048576 (by omega) (by omega) ha hb hs
  refine Ev.bind hr ?_
  by_cases q : r < 0
  · exact ev_ift q (Ev.now _)
  · obtain ⟨h1, h2⟩ := hrl (by omega)
    have Tv := toTr_ev s a b h1 h2
    exact ev_iff q (Ev.bind Tv (Ev.bind (spec_text_ev s a (b.map conv)) (Ev.bind Tv (Ev.bind (impl_text_ev s a (b.map conv) h1) (ev_ift rfl (Ev.bind Tv (Ev.bind (eqTr_ev s a (b.map conv) h1 (by simpa using h2)) (ev_ift rfl (Ev.now _)))))))))
abbrev kTr : Kd (Int × List Bool × List LE) := Kd.pair (Kd.int .i64) (Kd.pair (Kd.slice 4 Kd.bool) (Kd.slice 131 k131))
theorem kTr_open {W : World} {y : Int × List Bool × List LE} {l : List Value} (h : kTr.K W y l) : ∃ A1 c1 A2 c2, l = [.int .i64 y.1, .slice A1 y.2.1.length c1, .slice A2 y.2.2.length c2] ∧
    y.2.1.length ≤ c1 ∧ Kd.C Kd.bool W A1 y.2.1.length y.2.1 ∧ y.2.2.length ≤ c2 ∧ Kd.C k131 W A2 y.2.2.length y.2.2 := by
  obtain ⟨_, _, rfl, rfl, _, _, rfl, ⟨A1, c1, rfl, h1, r1⟩, A2, c2, rfl, h2, r2⟩ := h
  exact ⟨A1, c1, A2, c2, rfl, h1, r1, h2, r2⟩
end Go.Proofs.YtjclfbcofclopaaDoor.PureTr
