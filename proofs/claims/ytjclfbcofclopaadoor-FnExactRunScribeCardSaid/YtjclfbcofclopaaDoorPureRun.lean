/- RunScribe of the program and of the reference come to the same; the law answers true. No condition. -/
import Derived.Test.YtjclfbcofclopaaDoorPureRs3
import Derived.Test.YtjclfbcofclopaaDoorPureWd
import Derived.Test.YtjclfbcofclopaaDoorReads
namespace Go.Proofs.YtjclfbcofclopaaDoor.PureSc
set_option linter.unusedVariables false
set_option linter.unusedSimpArgs false
open Go.RowKit Go.Proofs.YtjclfbcofclopaaDoorW.PrintWords Go.Proofs.YtjclfbcofclopaaDoorW.PrintLast Go.Proofs.YtjclfbcofclopaaDoorW.PrintMore Go.Proofs.YtjclfbcofclopaaDoor.Sc Go.Proofs.YtjclfbcofclopaaDoor.PScA Go.Proofs.YtjclfbcofclopaaDoor.Pure Go.Proofs.YtjclfbcofclopaaDoor.PureWd Go.Proofs.YtjclfbcofclopaaDoor.Wd
/-- What is written for the letters l, from state q on. -/
def run (a : List Bool) (b : List I2) (c : List T2) : List UInt8 → ByteArray → Nat → ByteArray × Int
  | [], out, q => if a.getD q false = true then (out, 0) else (⟨#[]⟩, 6)
  | x :: xs, out, q =>
    if x = 97 then (if (b.getD q z91).f0 < 0 then (⟨#[]⟩, 6) else run a b c xs (out ++ (c.getD q z92).f0) (b.getD q z91).f0.toNat)
    else (if (b.getD q z91).f1 < 0 then (⟨#[]⟩, 6) else run a b c xs (out ++ (c.getD q z92).f1) (b.getD q z91).f1.toNat)
theorem okC_size {n a : Int} {s : ByteArray} (h : okC n a s = true) : s.size ≤ 1 := by
  have e : s.size = s.toList.length := by rw [Lib.toList_data]; exact Array.length_toList.symm
  unfold okC at h
  simp only [Bool.or_eq_true, Bool.and_eq_true, decide_eq_true_eq, beq_iff_eq] at h
  rcases h with ⟨_, h⟩ | ⟨_, h | h⟩ <;> rw [e, h] <;> simp
theorem okC_next {n a : Int} {s : ByteArray} (h : okC n a s = true) (h0 : ¬ a < 0) : a ≤ n - 1 := by
  unfold okC at h
  simp only [Bool.or_eq_true, Bool.and_eq_true, decide_eq_true_eq, beq_iff_eq] at h
  rcases h with ⟨h, _⟩ | ⟨h, _⟩ <;> omega
theorem rows_at {n : Nat} {b : List I2} {c : List T2} (h : rowsOk n b c = true) {q : Nat} (hq : q < n) :
    okC n (b.getD q z91).f0 (c.getD q z92).f0 = true ∧ okC n (b.getD q z91).f1 (c.getD q z92).f1 = true := by
  have := List.all_eq_true.1 h q (List.mem_range.2 hq)
  simpa using this
theorem key97 (x : UInt8) : ((x.toNat : Int) - 97) % 256 = 0 ↔ x = 97 := by
  constructor
  · intro h
    have := x.toNat_lt
    apply UInt8.toNat_inj.1
    have : x.toNat = 97 := by omega
    simpa using this
  · rintro rfl; rfl
theorem key98 (x : UInt8) : ((x.toNat : Int) - 97) % 256 = 1 ↔ x = 98 := by
  constructor
  · intro h
    have := x.toNat_lt
    apply UInt8.toNat_inj.1
    have : x.toNat = 98 := by omega
    simpa using this
  · rintro rfl; rfl
theorem letter_at {u : ByteArray} (hl : letters u.data.toList = true) (i : Nat) (hi : i < u.data.toList.length) : u.data.toList[i] = 97 ∨ u.data.toList[i] = 98 := by
  have := List.all_eq_true.1 hl _ (List.getElem_mem hi)
  simpa using this
variable {a : List Bool} {b : List I2} {c : List T2} {u : ByteArray} (hr : rowsOk a.length b c = true) (hb : b.length = a.length) (hc : c.length = a.length) (hu : u.size ≤ 1048576) (hl : letters u.data.toList = true)
include hr hb hc hu hl
theorem impl_run : ∀ (d i : Nat) (out : ByteArray) (q : Nat), d + i = u.size → q < a.length → out.size ≤ i →
    Ev (fun k => impl_RunScribe.l0 k u out (q : Int) (u.size : Int) (i : Int) a b c) (run a b c (u.data.toList.drop i) out q) := by
  have hsz : u.data.toList.length = u.size := Array.length_toList
  intro d
  induction d with
  | zero =>
    intro i out q hi hq ho
    rw [List.drop_eq_nil_of_le (by omega)]
    unfold run
    have e : rdOf false a (q : Int) = a.getD q false := rfl
    by_cases h : a.getD q false = true
    · rw [if_pos h]
      exact ev_const (fun k => by simp only [impl_RunScribe.l0]; rw [if_neg (by omega), if_pos (by omega), if_pos (by omega), e, if_pos h])
    · rw [if_neg h]
      exact ev_const (fun k => by simp only [impl_RunScribe.l0]; rw [if_neg (by omega), if_pos (by omega), if_pos (by omega), e, if_neg h])
  | succ d ih =>
    intro i out q hi hq ho
    have hlt : i < u.data.toList.length := by omega
    obtain ⟨r0, r1⟩ := rows_at hr hq
    have hbt := bt_nat u i hlt
    have hx := letter_at hl i hlt
    have eb : rd_T91 b (q : Int) = b.getD q z91 := rfl
    have ec : rd_T92 c (q : Int) = c.getD q z92 := rfl
    rw [List.drop_eq_getElem_cons hlt]
    generalize u.data.toList[i] = x at hbt hx
    unfold run
    have z0 := okC_size r0
    have z1 := okC_size r1
    rcases hx with rfl | rfl
    · rw [if_pos rfl]
      have hk : (bt u (i : Int) - 97) % 256 = 0 := by rw [hbt]; rfl
      by_cases hneg : (b.getD q z91).f0 < 0
      · rw [if_pos hneg]
        exact ev_const (fun k => by simp only [impl_RunScribe.l0]; rw [if_pos (by omega), if_pos (by omega), if_pos (by omega), if_pos (by omega), if_pos (by omega), if_pos (by omega), if_pos hk, ec, if_pos (by omega), if_pos (by omega), eb, if_pos hneg])
      · rw [if_neg hneg]
        have hnx := okC_next r0 hneg
        refine ev_step (fun k => by simp only [impl_RunScribe.l0]; rw [if_pos (by omega), if_pos (by omega), if_pos (by omega), if_pos (by omega), if_pos (by omega), if_pos (by omega), if_pos hk, ec, if_pos (by omega), if_pos (by omega), eb, if_neg hneg, wrap_up (by omega)]) ?_
        have := ih (i + 1) (out ++ (c.getD q z92).f0) (b.getD q z91).f0.toNat (by omega) (by omega) (by rw [ByteArray.size_append]; omega)
        rw [Int.toNat_of_nonneg (by omega)] at this
        simpa using this
    · rw [if_neg (by decide)]
      have hk : (bt u (i : Int) - 97) % 256 = 1 := by rw [hbt]; rfl
      by_cases hneg : (b.getD q z91).f1 < 0
      · rw [if_pos hneg]
        exact ev_const (fun k => by simp only [impl_RunScribe.l0]; rw [if_pos (by omega), if_pos (by omega), if_pos (by omega), if_pos (by omega), if_pos (by omega), if_pos (by omega), if_neg (by omega), if_pos hk, ec, if_pos (by omega), if_pos (by omega), eb, if_pos hneg])
      · rw [if_neg hneg]
        have hnx := okC_next r1 hneg
        refine ev_step (fun k => by simp only [impl_RunScribe.l0]; rw [if_pos (by omega), if_pos (by omega), if_pos (by omega), if_pos (by omega), if_pos (by omega), if_pos (by omega), if_neg (by omega), if_pos hk, ec, if_pos (by omega), if_pos (by omega), eb, if_neg hneg, wrap_up (by omega)]) ?_
        have := ih (i + 1) (out ++ (c.getD q z92).f1) (b.getD q z91).f1.toNat (by omega) (by omega) (by rw [ByteArray.size_append]; omega)
        rw [Int.toNat_of_nonneg (by omega)] at this
        simpa using this
theorem spec_run : ∀ (d i : Nat) (out : ByteArray) (q : Nat), d + i = u.size → q < a.length → out.size ≤ i →
    Ev (fun k => spec_RunScribe.l0 k u out (q : Int) (i : Int) a b c) (run a b c (u.data.toList.drop i) out q) := by
  have hsz : u.data.toList.length = u.size := Array.length_toList
  intro d
  induction d with
  | zero =>
    intro i out q hi hq ho
    rw [List.drop_eq_nil_of_le (by omega)]
    unfold run
    have e : rdOf false a (q : Int) = a.getD q false := rfl
    by_cases h : a.getD q false = true
    · rw [if_pos h]
      exact ev_const (fun k => by simp only [spec_RunScribe.l0]; rw [if_neg (by omega), if_pos (by omega), if_pos (by omega), e, if_pos h])
    · rw [if_neg h]
      exact ev_const (fun k => by simp only [spec_RunScribe.l0]; rw [if_neg (by omega), if_pos (by omega), if_pos (by omega), e, if_neg h])
  | succ d ih =>
    intro i out q hi hq ho
    have hlt : i < u.data.toList.length := by omega
    obtain ⟨r0, r1⟩ := rows_at hr hq
    have hbt := bt_nat u i hlt
    have hx := letter_at hl i hlt
    have eb : rd_T91 b (q : Int) = b.getD q z91 := rfl
    have ec : rd_T92 c (q : Int) = c.getD q z92 := rfl
    rw [List.drop_eq_getElem_cons hlt]
    generalize u.data.toList[i] = x at hbt hx
    unfold run
    have z0 := okC_size r0
    have z1 := okC_size r1
    rcases hx with rfl | rfl
    · rw [if_pos rfl]
      have hk : (bt u (i : Int) - 97) % 256 = 0 := by rw [hbt]; rfl
      by_cases hneg : (b.getD q z91).f0 < 0
      · rw [if_pos hneg]
        exact ev_const (fun k => by simp only [spec_RunScribe.l0]; rw [if_pos (by omega), if_pos (by omega), if_pos (by omega), if_pos (by omega), if_pos (by omega), if_pos hk, eb, if_pos hneg])
      · rw [if_neg hneg]
        have hnx := okC_next r0 hneg
        refine ev_step (fun k => by simp only [spec_RunScribe.l0]; rw [if_pos (by omega), if_pos (by omega), if_pos (by omega), if_pos (by omega), if_pos (by omega), if_pos hk, eb, if_neg hneg, if_pos (by omega), ec, if_pos (by omega), wrap_up (by omega)]) ?_
        have := ih (i + 1) (out ++ (c.getD q z92).f0) (b.getD q z91).f0.toNat (by omega) (by omega) (by rw [ByteArray.size_append]; omega)
        rw [Int.toNat_of_nonneg (by omega)] at this
        simpa using this
    · rw [if_neg (by decide)]
      have hk : (bt u (i : Int) - 97) % 256 = 1 := by rw [hbt]; rfl
      by_cases hneg : (b.getD q z91).f1 < 0
      · rw [if_pos hneg]
        exact ev_const (fun k => by simp only [spec_RunScribe.l0]; rw [if_pos (by omega), if_pos (by omega), if_pos (by omega), if_pos (by omega), if_pos (by omega), if_neg (by omega), if_pos hk, eb, if_pos hneg])
      · rw [if_neg hneg]
        have hnx := okC_next r1 hneg
        refine ev_step (fun k => by simp only [spec_RunScribe.l0]; rw [if_pos (by omega), if_pos (by omega), if_pos (by omega), if_pos (by omega), if_pos (by omega), if_neg (by omega), if_pos hk, eb, if_neg hneg, if_pos (by omega), ec, if_pos (by omega), wrap_up (by omega)]) ?_
        have := ih (i + 1) (out ++ (c.getD q z92).f1) (b.getD q z91).f1.toNat (by omega) (by omega) (by rw [ByteArray.size_append]; omega)
        rw [Int.toNat_of_nonneg (by omega)] at this
        simpa using this
omit hr hb hc hu hl
/-- What RunScribe answers. -/
def runB (a : List Bool) (b : List I2) (c : List T2) (u : ByteArray) : ByteArray × Int := if (validB a b c && isWord u) = true then run a b c u.data.toList ⟨#[]⟩ 0 else (⟨#[]⟩, 1)
theorem valid_parts {a : List Bool} {b : List I2} {c : List T2} (h : validB a b c = true) : 1 ≤ a.length ∧ a.length ≤ 150 ∧ b.length = a.length ∧ c.length = a.length ∧ rowsOk a.length b c = true := by
  unfold validB at h
  simp only [Bool.and_eq_true, decide_eq_true_eq] at h
  exact ⟨h.1.1, h.1.2.1, h.1.2.2.1, h.1.2.2.2, h.2⟩
theorem impl_run_ev (a : List Bool) (b : List I2) (c : List T2) (u : ByteArray) (ha : a.length ≤ 1048576) (hu : u.size ≤ 1048576) : Ev (fun k => impl_RunScribe.f k a b c u) (runB a b c u) := by
  have hw : impl_ValidWord.f u = some (isWord u) := by unfold impl_ValidWord.f; rw [if_pos (by omega)]
  unfold impl_RunScribe.f runB
  refine Ev.bind (impl_valid_ev a b c ha) ?_
  have no : Ev (fun k => impl_RunScribe.j0 k u true a b c) (⟨#[]⟩, 1) := ev_const (fun k => by simp only [impl_RunScribe.j0]; rw [if_pos trivial])
  by_cases hv : validB a b c = true
  · refine ev_ift hv ?_
    refine Ev.congr (f := fun k => impl_RunScribe.j0 k u (!isWord u) a b c) (fun k => by rw [hw]; rfl) ?_
    rw [hv, Bool.true_and]
    by_cases hi : isWord u = true
    · rw [if_pos hi, hi]
      obtain ⟨p1, p2, p3, p4, p5⟩ := valid_parts hv
      have hl : letters u.data.toList = true := by rw [word_is] at hi; simp only [Bool.and_eq_true] at hi; exact hi.2
      have := impl_run p5 p3 p4 hu hl u.size 0 ⟨#[]⟩ 0 (by omega) (by omega) (by simp [ByteArray.size])
      exact ev_step (fun k => by simp only [impl_RunScribe.j0]; rw [if_neg (by decide)]) (by simpa using this)
    · rw [if_neg hi, show isWord u = false by simpa using hi]
      exact no
  · refine ev_iff hv ?_
    rw [show validB a b c = false by simpa using hv, Bool.false_and, if_neg (by decide)]
    exact no
theorem spec_run_ev (a : List Bool) (b : List I2) (c : List T2) (u : ByteArray) (ha : a.length ≤ 1048576) (hu : u.size ≤ 1048576) : Ev (fun k => spec_RunScribe.f k a b c u) (runB a b c u) := by
  unfold spec_RunScribe.f runB
  refine Ev.bind (spec_valid_ev a b c) ?_
  have no : Ev (fun k => spec_RunScribe.j0 k u true a b c) (⟨#[]⟩, 1) := ev_const (fun k => by simp only [spec_RunScribe.j0]; rw [if_pos trivial])
  by_cases hv : validB a b c = true
  · refine ev_ift hv ?_
    refine Ev.bind (word_ev u hu) ?_
    rw [hv, Bool.true_and]
    by_cases hi : isWord u = true
    · rw [if_pos hi, hi]
      obtain ⟨p1, p2, p3, p4, p5⟩ := valid_parts hv
      have hl : letters u.data.toList = true := by rw [word_is] at hi; simp only [Bool.and_eq_true] at hi; exact hi.2
      have := spec_run p5 p3 p4 hu hl u.size 0 ⟨#[]⟩ 0 (by omega) (by omega) (by simp [ByteArray.size])
      exact ev_step (fun k => by simp only [spec_RunScribe.j0]; rw [if_neg (by decide)]) (by simpa using this)
    · rw [if_neg hi, show isWord u = false by simpa using hi]
      exact no
  · refine ev_iff hv ?_
    rw [show validB a b c = false by simpa using hv, Bool.false_and, if_neg (by decide)]
    exact no
theorem law_run (a : List Bool) (b : List I2) (c : List T2) (u : ByteArray) (ha : a.length ≤ 9223372036854775807) (hb : b.length ≤ 9223372036854775807) (hl : c.length ≤ 9223372036854775807)
    (hs : ∀ x ∈ c, x.f0.size ≤ 9223372036854775807 ∧ x.f1.size ≤ 9223372036854775807) : ∃ k, laws_FnExactRunScribe.f k a b c u = some true := by
  refine Ev.rounds ?_
  unfold laws_FnExactRunScribe.f
  by_cases hu : (u.size : Int) > 1048576
  · exact ev_ift hu (Ev.now _)
  · refine ev_iff hu ?_
    have hu' : u.size ≤ 1048576 := by omega
    obtain ⟨r, hr, hrn, hrl⟩ := szScribe_ev a b c 1048576 (by omega) (by omega) ha hb hl hs
    refine Ev.bind hr ?_
    by_cases q : r < 0
    · exact ev_ift q (Ev.now _)
    · obtain ⟨h1, h2, h3⟩ := hrl (by omega)
      have T := toScribe_ev a b c h1 h2 h3
      refine ev_iff q (Ev.bind T (Ev.bind (spec_run_ev a b c u h1 hu') (Ev.bind T (Ev.bind (impl_run_ev a b c u h1 hu') (ev_ift rfl ?_)))))
      refine ev_step (f := fun k => (laws_toScribe.f k a b c).bind fun z => (laws_eqScribe.f k a b c z.1 z.2.1 z.2.2).bind fun t => if t = true then some true else some false) (fun k => by simp only [laws_FnExactRunScribe.j0]; rw [if_neg (by simp)]) ?_
      exact Ev.bind T (Ev.bind (eqScribe_ev a b c h1 h2 h3) (ev_ift rfl (Ev.now _)))
abbrev kSc : Kd (List Bool × List I2 × List T2) := Kd.pair (Kd.slice 4 Kd.bool) (Kd.pair (Kd.slice 91 k91) (Kd.slice 92 k92))
theorem kSc_open {W : World} {y : List Bool × List I2 × List T2} {l : List Value} (h : kSc.K W y l) : ∃ A0 c0 A1 c1 A2 c2, l = [.slice A0 y.1.length c0, .slice A1 y.2.1.length c1, .slice A2 y.2.2.length c2] ∧
    y.1.length ≤ c0 ∧ Kd.C Kd.bool W A0 y.1.length y.1 ∧ y.2.1.length ≤ c1 ∧ Kd.C k91 W A1 y.2.1.length y.2.1 ∧ y.2.2.length ≤ c2 ∧ Kd.C k92 W A2 y.2.2.length y.2.2 := by
  obtain ⟨_, _, rfl, ⟨A0, c0, rfl, h0, r0⟩, _, _, rfl, ⟨A1, c1, rfl, h1, r1⟩, A2, c2, rfl, h2, r2⟩ := h
  exact ⟨A0, c0, A1, c1, A2, c2, rfl, h0, r0, h1, r1, h2, r2⟩
def bSc (y : List Bool × List I2 × List T2) : Prop := (y.1.length ≤ 9223372036854775807 ∧ ∀ z ∈ y.1, True) ∧ (y.2.1.length ≤ 9223372036854775807 ∧ ∀ z ∈ y.2.1, (Lit.int .i64 z.f0).wf = true ∧ (Lit.int .i64 z.f1).wf = true) ∧ (y.2.2.length ≤ 9223372036854775807 ∧ ∀ x ∈ y.2.2, x.f0.size ≤ 9223372036854775807 ∧ x.f1.size ≤ 9223372036854775807)
end Go.Proofs.YtjclfbcofclopaaDoor.PureSc
namespace Go.Proofs.YtjclfbcofclopaaDoor.WFnExactRunScribe
open Go.RowKit Go.Proofs.YtjclfbcofclopaaDoorW.PrintWords Go.Proofs.YtjclfbcofclopaaDoor.PureSc Go.Proofs.YtjclfbcofclopaaDoor.PScA
theorem walk (W : World) (_hG : True) (l0 : List Value) (y0 : List Bool × List I2 × List T2) (k0 : kSc.K W y0 l0) (b0 : bSc y0) (a1 : ByteArray) (_b1 : a1.size ≤ 9223372036854775807) :
    Calls Tryd.prog 4 #[.agg l0.toArray, .string a1] W fun e W' => e = .returned (.bool true) ∧ Below W.heap.size W W' := by
  obtain ⟨A0, c0, A1, c1, A2, c2, rfl, h0, r0, h1, r1, h2, r2⟩ := kSc_open k0
  obtain ⟨k, hk⟩ := law_run y0.1 y0.2.1 y0.2.2 a1 b0.1.1 b0.2.1.1 b0.2.2.1 b0.2.2.2
  exact laws_FnExactRunScribe.calls k A0 c0 y0.1 A1 c1 y0.2.1 A2 c2 y0.2.2 a1 true W r0 h0 r1 h1 r2 h2 rfl hk
end Go.Proofs.YtjclfbcofclopaaDoor.WFnExactRunScribe
