/- What the functions on scribes come to. No condition. -/
import Derived.Test.YtjclfbcofclopaaDoorPScAx
import Derived.Test.YtjclfbcofclopaaDoorPure
namespace Go.Proofs.YtjclfbcofclopaaDoor.PureSc
set_option linter.unusedVariables false
set_option linter.unusedSimpArgs false
open Go.RowKit Go.Proofs.YtjclfbcofclopaaDoorW.PrintWords Go.Proofs.YtjclfbcofclopaaDoorW.PrintLast Go.Proofs.YtjclfbcofclopaaDoorW.PrintMore Go.Proofs.YtjclfbcofclopaaDoor.Sc Go.Proofs.YtjclfbcofclopaaDoor.PScA Go.Proofs.YtjclfbcofclopaaDoor.Pure
abbrev I2 := S91
abbrev T2 := S92
theorem toBool_ev (xs : List Bool) (h : xs.length ≤ 281474976710656) : Ev (fun k => laws_toBoolS.f k xs) xs := by
  have key := ev_copy (fun k ys i => laws_toBoolS.l0 k xs ys i) xs false
    (fun ys hy => ev_const (fun k => by simp [laws_toBoolS.l0]))
    (fun i hi ys r hy H => ev_step (fun k => by
      simp only [laws_toBoolS.l0]
      rw [if_pos (by omega), if_pos (by omega), if_pos (by omega), rdOf_nat false xs i hi, wrap_up (by omega), Int.toNat_natCast]) H)
  refine Ev.congr (fun k => ?_) key
  unfold laws_toBoolS.f
  rw [if_pos (by omega), if_pos (by simpa using h), Int.toNat_natCast]
theorem toInt_ev (xs : List I2) (h : xs.length ≤ 17592186044416) : Ev (fun k => laws_toInt64A2S.f k xs) xs := by
  have key := ev_copy (fun k ys i => laws_toInt64A2S.l0 k xs ys i) xs z91
    (fun ys hy => ev_const (fun k => by simp [laws_toInt64A2S.l0]))
    (fun i hi ys r hy H => ev_step (fun k => by
      simp only [laws_toInt64A2S.l0, laws_toInt64A2.f, Option.bind_some]
      rw [if_pos (by omega), if_pos (by omega), if_pos (by omega), wrap_up (by omega), Int.toNat_natCast]
      have e : rd_T91 xs (i : Int) = xs[i] := getD_nat _ _ _ hi
      rw [e]) H)
  refine Ev.congr (fun k => ?_) key
  unfold laws_toInt64A2S.f
  rw [if_pos (by omega), if_pos (by simpa using h), Int.toNat_natCast]
theorem toStr_ev (xs : List T2) (h : xs.length ≤ 8796093022208) : Ev (fun k => laws_toStringA2S.f k xs) xs := by
  have key := ev_copy (fun k ys i => laws_toStringA2S.l0 k xs ys i) xs z92
    (fun ys hy => ev_const (fun k => by simp [laws_toStringA2S.l0]))
    (fun i hi ys r hy H => ev_step (fun k => by
      simp only [laws_toStringA2S.l0, laws_toStringA2.f, Option.bind_some]
      rw [if_pos (by omega), if_pos (by omega), if_pos (by omega), wrap_up (by omega), Int.toNat_natCast]
      have e : rd_T92 xs (i : Int) = xs[i] := getD_nat _ _ _ hi
      rw [e]) H)
  refine Ev.congr (fun k => ?_) key
  unfold laws_toStringA2S.f
  rw [if_pos (by omega), if_pos (by simpa using h), Int.toNat_natCast]
theorem toScribe_ev (a : List Bool) (b : List I2) (c : List T2) (ha : a.length ≤ 1048576) (hb : b.length ≤ 1048576) (hc : c.length ≤ 1048576) : Ev (fun k => laws_toScribe.f k a b c) (a, b, c) :=
  ev_call (toBool_ev a (by omega)) (ev_call (toInt_ev b (by omega)) (ev_call (toStr_ev c (by omega)) (Ev.now _) (fun _ => rfl)) (fun _ => rfl)) (fun _ => rfl)
/-- Equal lists. -/
theorem eqBool_ev (a : List Bool) (h : a.length ≤ 1048576) : Ev (fun k => laws_eqBoolS.f k a a) true := by
  have key := ev_up (fun k i (_ : Unit) => laws_eqBoolS.l0 k a a i) a.length (fun _ => ()) true (ev_const (fun k => by simp [laws_eqBoolS.l0]))
    (fun i hi H => ev_step (fun k => by
      simp only [laws_eqBoolS.l0]
      rw [if_pos (by omega), if_pos (by omega), if_pos (by omega), if_neg (by simp), wrap_up (by omega)]) H)
  exact Ev.congr (fun k => by simp [laws_eqBoolS.f]) key
theorem eqInt_ev (a : List I2) (h : a.length ≤ 1048576) : Ev (fun k => laws_eqInt64A2S.f k a a) true := by
  have key := ev_up (fun k i (_ : Unit) => laws_eqInt64A2S.l0 k a a i) a.length (fun _ => ()) true (ev_const (fun k => by simp [laws_eqInt64A2S.l0]))
    (fun i hi H => ev_step (fun k => by
      simp only [laws_eqInt64A2S.l0, laws_eqInt64A2.f, decide_true, Option.bind_some, if_true]
      rw [if_pos (by omega), if_pos (by omega), if_pos (by omega), wrap_up (by omega)]) H)
  exact Ev.congr (fun k => by simp [laws_eqInt64A2S.f]) key
theorem eqStr_ev (a : List T2) (h : a.length ≤ 1048576) : Ev (fun k => laws_eqStringA2S.f k a a) true := by
  have key := ev_up (fun k i (_ : Unit) => laws_eqStringA2S.l0 k a a i) a.length (fun _ => ()) true (ev_const (fun k => by simp [laws_eqStringA2S.l0]))
    (fun i hi H => ev_step (fun k => by
      simp only [laws_eqStringA2S.l0, laws_eqStringA2.f, decide_true, Option.bind_some, if_true]
      rw [if_pos (by omega), if_pos (by omega), if_pos (by omega), wrap_up (by omega)]) H)
  exact Ev.congr (fun k => by simp [laws_eqStringA2S.f]) key
theorem eqScribe_ev (a : List Bool) (b : List I2) (c : List T2) (ha : a.length ≤ 1048576) (hb : b.length ≤ 1048576) (hc : c.length ≤ 1048576) : Ev (fun k => laws_eqScribe.f k a b c a b c) true :=
  ev_call (eqBool_ev a ha) (f := fun k t => if t = true then ((laws_eqInt64A2S.f k b b).bind fun t164 => (if t164 = true then ((laws_eqStringA2S.f k c c).bind fun t165 => (if t165 = true then (some true) else (some false))) else (some false))) else (some false))
    (ev_ift rfl (ev_call (eqInt_ev b hb) (f := fun k t164 => (if t164 = true then ((laws_eqStringA2S.f k c c).bind fun t165 => (if t165 = true then (some true) else (some false))) else (some false)))
      (ev_ift rfl (ev_call (eqStr_ev c hc) (f := fun k t165 => (if t165 = true then (some true) else (some false))) (ev_ift rfl (Ev.now _)) (fun _ => rfl))) (fun _ => rfl))) (fun _ => rfl)
/-- What is left of a size: where it is not below 0, all lists are short. -/
theorem szStr_ev (c : List T2) (n : Int) (h0 : 0 ≤ n) (hn : n ≤ 1048576) (hl : c.length ≤ 9223372036854775807) (hs : ∀ x ∈ c, x.f0.size ≤ 9223372036854775807 ∧ x.f1.size ≤ 9223372036854775807) :
    ∃ r, Ev (fun k => laws_szStringA2S.f k c n) r ∧ r ≤ n ∧ (0 ≤ r → c.length ≤ 1048576) := by
  have hw : wrap64 (n - c.length) = n - c.length := wrap_id (by omega) (by omega)
  by_cases hlt : n - c.length < 0
  · exact ⟨-1, Ev.congr (fun k => by unfold laws_szStringA2S.f; rw [hw, if_pos hlt]) (Ev.now _), by omega, by omega⟩
  · have key : ∀ d i (m : Int), d + i = c.length → 0 ≤ m → m ≤ n - c.length → ∃ r, Ev (fun k => laws_szStringA2S.l0 k c m (i : Int)) r ∧ r ≤ n := by
      intro d
      induction d with
      | zero => intro i m hi h0 hm; exact ⟨m, ev_const (fun k => by simp only [laws_szStringA2S.l0]; rw [if_neg (by omega)]), by omega⟩
      | succ d ih =>
        intro i m hi h0 hm
        have hi' : i < c.length := by omega
        have e : rd_T92 c (i : Int) = c[i] := getD_nat _ _ _ hi'
        obtain ⟨s0, s1⟩ := hs c[i] (List.getElem_mem hi')
        have w1 : wrap64 (m - c[i].f0.size) = m - c[i].f0.size := wrap_id (by omega) (by omega)
        have hv : szS2V m c[i].f0.size c[i].f1.size = if m - c[i].f0.size < 0 then -1 else if m - c[i].f0.size - c[i].f1.size < 0 then -1 else m - c[i].f0.size - c[i].f1.size := by
          unfold szS2V; rw [w1]
          by_cases q : m - c[i].f0.size < 0
          · rw [if_pos q, if_pos q]
          · have w2 : wrap64 (m - c[i].f0.size - c[i].f1.size) = m - c[i].f0.size - c[i].f1.size := wrap_id (by omega) (by omega)
            rw [w2]
        by_cases q : szS2V m c[i].f0.size c[i].f1.size < 0
        · exact ⟨-1, ev_const (fun k => by
            simp only [laws_szStringA2S.l0, laws_szStringA2.f, Option.bind_some]
            rw [if_pos (by omega), if_pos (by omega), e, if_pos q]), by omega⟩
        · have hq : 0 ≤ szS2V m c[i].f0.size c[i].f1.size ∧ szS2V m c[i].f0.size c[i].f1.size ≤ m := by
            rw [hv] at q ⊢
            by_cases z1 : m - c[i].f0.size < 0
            · rw [if_pos z1] at q; omega
            · rw [if_neg z1] at q ⊢
              by_cases z2 : m - c[i].f0.size - c[i].f1.size < 0
              · rw [if_pos z2] at q; omega
              · rw [if_neg z2]; omega
          obtain ⟨r, hr, hrn⟩ := ih (i + 1) _ (by omega) hq.1 (by omega)
          refine ⟨r, ev_step (fun k => ?_) hr, hrn⟩
          simp only [laws_szStringA2S.l0, laws_szStringA2.f, Option.bind_some]
          rw [if_pos (by omega), if_pos (by omega), e, if_neg q, wrap_up (by omega)]
          simp
    obtain ⟨r, hr, hrn⟩ := key c.length 0 _ (by omega) (by omega) (Int.le_refl _)
    refine ⟨r, Ev.congr (fun k => ?_) hr, hrn, by omega⟩
    unfold laws_szStringA2S.f
    rw [hw, if_neg hlt]
    rfl
theorem szScribe_ev (a : List Bool) (b : List I2) (c : List T2) (n : Int) (h0 : 0 ≤ n) (hn : n ≤ 1048576) (ha : a.length ≤ 9223372036854775807) (hb : b.length ≤ 9223372036854775807) (hl : c.length ≤ 9223372036854775807)
    (hs : ∀ x ∈ c, x.f0.size ≤ 9223372036854775807 ∧ x.f1.size ≤ 9223372036854775807) :
    ∃ r, Ev (fun k => laws_szScribe.f k a b c n) r ∧ r ≤ n ∧ (0 ≤ r → a.length ≤ 1048576 ∧ b.length ≤ 1048576 ∧ c.length ≤ 1048576) := by
  have w1 : wrap64 (n - a.length) = n - a.length := wrap_id (by omega) (by omega)
  by_cases q1 : n - a.length < 0
  · exact ⟨-1, Ev.congr (fun k => by simp only [laws_szScribe.f, laws_szBoolS.f]; rw [w1, if_pos q1]; rfl) (Ev.now _), by omega, by omega⟩
  · have w2 : wrap64 (n - a.length - b.length) = n - a.length - b.length := wrap_id (by omega) (by omega)
    by_cases q2 : n - a.length - b.length < 0
    · exact ⟨-1, Ev.congr (fun k => by simp only [laws_szScribe.f, laws_szBoolS.f, laws_szInt64A2S.f]; rw [w1, if_neg q1]; simp only [Option.bind_some]; rw [if_neg q1, w2, if_pos q2]; rfl) (Ev.now _), by omega, by omega⟩
    · obtain ⟨r, hr, hrn, hrl⟩ := szStr_ev c (n - a.length - b.length) (by omega) (by omega) hl hs
      have fin : ∀ (m : Int), Ev (fun k => (laws_szStringA2S.f k c (n - a.length - b.length)).bind fun t => if t < 0 then some (-1) else some t) m → Ev (fun k => laws_szScribe.f k a b c n) m := fun m hm =>
        Ev.congr (fun k => by simp only [laws_szScribe.f, laws_szBoolS.f, laws_szInt64A2S.f]; rw [w1, if_neg q1]; simp only [Option.bind_some]; rw [if_neg q1, w2, if_neg q2]; simp only [Option.bind_some]; rw [if_neg q2]) hm
      by_cases q3 : r < 0
      · exact ⟨-1, fin _ (ev_call hr (f := fun _ t => if t < 0 then some (-1) else some t) (ev_ift q3 (Ev.now _)) (fun _ => rfl)), by omega, by omega⟩
      · exact ⟨r, fin _ (ev_call hr (f := fun _ t => if t < 0 then some (-1) else some t) (ev_iff q3 (Ev.now _)) (fun _ => rfl)), by omega, fun h => ⟨by omega, by omega, hrl h⟩⟩
end Go.Proofs.YtjclfbcofclopaaDoor.PureSc
