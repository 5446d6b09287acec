/- Parts of the proof, put together by a program of the session. -/
import Derived.Test.YtbamnonamdpooaaDoorCore0
import Derived.Test.YtbamnonamdpooaaDoorCore4
import Derived.Test.YtbamnonamdpooaaDoorCore2
import Derived.Test.YtbamnonamdpooaaDoorRows
import Derived.LaidSub
import Derived.MakeChecks
import Derived.Test.YtbamnonamdpooaaDoorCWords
import Derived.ChangeArms
import Derived.OpenShut
import Derived.Deep.Slices
import Derived.DataReads
import Derived.WideShapes
import Derived.Lib.SmallJoins
import Derived.LaidMore
import Derived.Lay
import Derived.WalkKit
import Derived.ProofKit
import Derived.ShutString
import Derived.ChangeOld
import Derived.Below
import Derived.SizedLaws
namespace Go.Proofs.YtbamnonamdpooaaDoor.PT3
open Go.RowKit Go.Proofs.YtbamnonamdpooaaDoorW.PrintWords Go.Proofs.YtbamnonamdpooaaDoorW.PrintLast Go.Proofs.YtbamnonamdpooaaDoorW.PrintMore PL1 Rw
attribute [local go_sem] max2_int min2_int max_two min_two max_three min_three max_four min_four   -- for this text's walks alone
set_option linter.unusedVariables false
set_option linter.unusedSimpArgs false
/-! ### laws_toBoolS: function 50 -/
def laws_toBoolS.l0 : Nat → List Bool → List Bool → Int → Option (List Bool)
 | 0, _, _, _ => none
 | k + 1, x0, x3, x4 => if x4 < (x0.length : Int) then (if 0 ≤ x4 then (if x4 < (x3.length : Int) then (laws_toBoolS.l0 k x0 (x3.set (x4 : Int).toNat (rdOf false x0 x4)) (wrap64 (x4 + 1))) else (none)) else (none)) else (some x3)
def laws_toBoolS.f (k : Nat) (l0 : List Bool) : Option (List Bool) := if 0 ≤ (l0.length : Int) then (if ((l0.length : Int) : Int).toNat ≤ 281474976710656 then (laws_toBoolS.l0 k l0 (List.replicate ((l0.length : Int) : Int).toNat false) 0) else (none)) else (none)
theorem laws_toBoolS.mono_l : ∀ k, (∀ y0 y1 y2, LeO (laws_toBoolS.l0 k y0 y1 y2) (laws_toBoolS.l0 (k + 1) y0 y1 y2))
 | 0 => fun _ _ _ r h => by simp [laws_toBoolS.l0] at h
 | k + 1 => by
  have ih0 := laws_toBoolS.mono_l k
  ·intro y0 y1 y2
   unfold laws_toBoolS.l0
   repeat' first
   | (with_reducible exact ih0 _ _ _)
   | (with_reducible exact LeO.refl _)
   | (with_reducible exact LeO.none _)
   | (with_reducible refine LeO.ite ?_ ?_)
   | (with_reducible refine LeO.bind ?_ (fun _ => ?_))
   | exact ih0 _ _ _
   | exact LeO.none _
   | refine LeO.ite ?_ ?_
   | refine LeO.bind ?_ (fun _ => ?_)
theorem laws_toBoolS.mono : ∀ a0 k, LeO (laws_toBoolS.f k a0) (laws_toBoolS.f (k + 1) a0) := by
 intro a0 k
 have ih0 := laws_toBoolS.mono_l k
 unfold laws_toBoolS.f
 repeat' first
   | (with_reducible exact ih0 _ _ _)
   | (with_reducible exact LeO.refl _)
   | (with_reducible exact LeO.none _)
   | (with_reducible refine LeO.ite ?_ ?_)
   | (with_reducible refine LeO.bind ?_ (fun _ => ?_))
   | exact ih0 _ _ _
   | exact LeO.none _
   | refine LeO.ite ?_ ?_
   | refine LeO.bind ?_ (fun _ => ?_)
set_option maxHeartbeats 8000000 in
set_option maxRecDepth 100000 in
theorem laws_toBoolS.calls (k : Nat) (A0 : Option Addr) (c0 : Nat) (l0 : List Bool) (r : List Bool) (w : World) (hr0 : Kd.C Kd.bool w A0 l0.length l0) (hc0 : l0.length ≤ c0) (h : laws_toBoolS.f k l0 = some r) :
  Calls Tryd.prog 50 #[.slice A0 l0.length c0] w fun e w' => ∃ v0_ : Value, e = .returned (v0_) ∧ Kd.R Kd.bool 4 w' w.heap.size (fun _ => True) v0_ r ∧ Below w.heap.size w w' := by
 have HR0 := Aside0.mk hr0
 have HC0 := Aside0.mk hc0
 clear hr0 hc0
 have HB := Aside0.mk (Below.refl w.heap.size w)
 have H : (if 0 ≤ (l0.length : Int) then (if ((l0.length : Int) : Int).toNat ≤ 281474976710656 then (laws_toBoolS.l0 k l0 (List.replicate ((l0.length : Int) : Int).toNat false) 0) else (none)) else (none)) = some r := h
 clear h
 by_cases c2 : 0 ≤ (l0.length : Int)
 ·rw [if_pos c2] at H
  have c2b0 := eq_true c2
  have c2b1 : decide (0 ≤ (l0.length : Int)) = true := decide_eq_true c2
  clear c2
  by_cases c3 : ((l0.length : Int) : Int).toNat ≤ 281474976710656
  ·rw [if_pos c3] at H
   have c3b0 := eq_true c3
   have c3b1 : decide (((l0.length : Int) : Int).toNat ≤ 281474976710656) = true := decide_eq_true c3
   clear c3
   obtain ⟨y101, hy101⟩ : ∃ y_ : List Bool, y_ = (List.replicate ((l0.length : Int) : Int).toNat false) := ⟨_, rfl⟩
   replace H : (laws_toBoolS.l0 k l0 y101 0) = some r := by first | (rw [hy101]; with_reducible exact H) | (have H2_ := (Option.bind_some _ _).symm.trans H; rw [hy101]; with_reducible exact H2_) | (have H2_ := (Option.bind_some _ _).symm.trans H; with_reducible exact H2_) | with_reducible exact H | (rw [hy101]; exact H) | exact H
   have Ny101 := Aside0.mk hy101
   clear hy101
   have H' := Aside0.mk H
   clear H
   go_enter Tryd.func50, Tryd.ntmps50
   go_wp2_with (first | ((with_reducible refine gate_dst (N := 7) rfl ?_); refine Kd.R_make Kd.bool _ 4 rfl (N := 7) rfl 22 _ _ rfl (l0.length : Int) rfl rfl Tryd.underlying22 (.bool false) 1 info4 rfl (by decide) (by omega) false (ok := fun _ => True) (okp := fun _ => True) rfl (fun _ hk => hk) trivial (of_decide_eq_true (by first | (with_reducible assumption) | assumption)) (Nat.le_trans (Nat.mul_le_mul_right _ (of_decide_eq_true (by first | (with_reducible assumption) | assumption) : (l0.length : Int).toNat ≤ 281474976710656)) (by omega)) (Below.refl _ _) (Nat.le_refl _) ?_; intro v102 w4 ho5 hb hg_ hnew_; clear hg_ hnew_; (first | rw [← Ny101.out] at ho5 | (simp only [Int.reduceToNat] at ho5; rw [← Ny101.out] at ho5)); have n0_ := Aside0.mk (Kd.R_lower ho5 (below_size (by repeat (first | (with_reducible first | exact HB.out | apply below_alloc | apply pw_below_drewN | apply below_drew1) | exact HB.out)))); have n1_ := Aside0.mk (below_step (by repeat (first | (with_reducible first | exact HB.out | apply below_alloc | apply pw_below_drewN | apply below_drew1) | exact HB.out)) hb); clear HB; have HO103 := n0_; have HB := n1_; clear n0_ n1_; clear hb ho5))
   go_loopg [4] k (fun kq v4 w' => ∃ (x3_1 : List Bool) (x4_1 : Int), v4 = .int .i64 x4_1 ∧ Aside0 (laws_toBoolS.l0 kq l0 x3_1 x4_1 = some r) ∧ Aside0 (kq ≤ k) ∧ Aside0 (Kd.R Kd.bool 4 w' w.heap.size (fun _ => True) v102 x3_1) ∧ Aside0 (Below w.heap.size w w'))
   case atStart => exact ⟨(y101), (0), (by first | rfl | (simp; done) | (simp [*]; done) | (simp [wrap64]; done)), H', ⟨Nat.le_refl _⟩, ⟨by (with_reducible repeat (first | apply Kd.R_alloc | apply Kd.R_drewN | apply Kd.R_drew)); exact HO103.out⟩, ⟨by repeat (first | (with_reducible first | exact HB.out | apply below_alloc | apply pw_below_drewN | apply below_drew1) | exact HB.out)⟩⟩
   case round =>
    clear H'
    try clear c2
    try clear c2b0
    try clear c2b1
    try clear p2
    try clear c3
    try clear c3b0
    try clear c3b1
    try clear c5
    obtain ⟨x3_1, x4_1, rfl, HA, HK1, HO_3, HB⟩ := hrel
    cases gk with
    | zero => exact absurd HA.out (by simp [laws_toBoolS.l0])
    | succ k1 =>
     have H := HA.out
     clear HA
     simp only [laws_toBoolS.l0] at H
     by_cases c6 : x4_1 < (l0.length : Int)
     ·rw [if_pos c6] at H
      have c6b0 : decide (x4_1 < (l0.length : Int)) = true := decide_eq_true c6
      clear c6
      by_cases c7 : 0 ≤ x4_1
      ·rw [if_pos c7] at H
       have c7b0 : decide (0 ≤ x4_1) = true := decide_eq_true c7
       clear c7
       by_cases c8 : x4_1 < (x3_1.length : Int)
       ·rw [if_pos c8] at H
        have c8b0 : decide (x4_1 < (x3_1.length : Int)) = true := decide_eq_true c8
        clear c8
        obtain ⟨y105, hy105⟩ : ∃ y_ : List Bool, y_ = (x3_1.set (x4_1 : Int).toNat (rdOf false l0 x4_1)) := ⟨_, rfl⟩
        replace H : (laws_toBoolS.l0 k1 l0 y105 (wrap64 (x4_1 + 1))) = some r := by first | (rw [hy105]; with_reducible exact H) | (have H2_ := (Option.bind_some _ _).symm.trans H; rw [hy105]; with_reducible exact H2_) | (have H2_ := (Option.bind_some _ _).symm.trans H; with_reducible exact H2_) | with_reducible exact H | (rw [hy105]; exact H) | exact H
        have Ny105 := Aside0.mk hy105
        clear hy105
        have H' := Aside0.mk H
        clear H
        have p104 : 0 ≤ (x4_1 : Int) := of_decide_eq_true (by first | (with_reducible assumption) | assumption)
        have q104 : x4_1 < (l0.length : Int) := of_decide_eq_true (by first | (with_reducible assumption) | assumption)
        obtain ⟨ad104, e104, hx104_0⟩ := Kd.at_bool HR0.out x4_1 p104 q104
        cases e104
        replace hx104_0 := (HB.out.cell (World.block_lt_of_cell? w _ hx104_0)).trans hx104_0
        replace p104 := eq_true p104
        replace q104 := eq_true q104
        have p9 : 0 ≤ (x4_1 : Int) := of_decide_eq_true (by first | (with_reducible assumption) | assumption)
        have q9 : (x4_1 : Int) < ((x3_1.length : Int) : Int) := of_decide_eq_true (by first | (with_reducible assumption) | assumption)
        obtain ⟨go9, co9, eo9, gb9, gl9, cl9, HG9⟩ := Kd.R_form HO_3.out (by omega)
        (first | cases eo9 | (injection eo9 with ea_ en_ ec_; (first | subst ea_ | (injection ea_ with ea_; subst ea_)); subst ec_; clear en_))
        have GB9 := Aside0.mk gb9
        have GG9 := Aside0.mk HG9
        clear gb9 gl9 HG9
        obtain ⟨hx9_0, hf9_0⟩ := Kd.R_celln false HO_3.out (x4_1 : Int) p9 q9
        replace p9 := eq_true p9
        replace q9 := eq_true q9
        have HP10 := Kd.R_putg HO_3.out (x4_1 : Int) (rdOf false l0 x4_1)
        go_wp2_with (first | ((with_reducible refine gate_store (t := 4) (p := 20) rfl ?_); refine store_event (t := 4) (p := 20) (v := ?vo_w11) (w1 := (wr.setCell ⟨go9, (x4_1 : Int).toNat, none⟩ (.bool (rdOf false l0 x4_1)))) ?hg ?ho ?hn ?hr ?_; (case ho => rfl); (case hg => rfl); (case hn => rfl); (case hr => first | (go_simp; done) | (go_simp; rfl)); intro w11 hw; have hg : wr.grownBy w11 (some go9) := (by rw [hw]; exact HP10.2); have hp_ : Kd.R Kd.bool 4 w11 w.heap.size (fun _ => True) (.slice (some ⟨go9, 0, none⟩) x3_1.length co9) y105 := (by rw [hw, Ny105.out]; exact HP10.1); clear HP10; have n0_ := Aside0.mk (hp_); have n1_ := Aside0.mk ((by rw [hw]; exact below_set (HB.out) GB9.out : Below w.heap.size w w11)); clear HO_3; clear HB; have HO_3 := n0_; have HB := n1_; clear n0_ n1_; clear hg hw hp_))
        go_roundg k1
        case measure => have := HK1.out; omega
        case rel => exact ⟨(y105), (wrap64 (x4_1 + 1)), (by first | rfl | (simp; done) | (simp [*]; done) | (simp [wrap64]; done)), H', ⟨by have := HK1.out; omega⟩, ⟨by (with_reducible repeat (first | apply Kd.R_alloc | apply Kd.R_drewN | apply Kd.R_drew)); exact HO_3.out⟩, ⟨by repeat (first | (with_reducible first | exact HB.out | apply below_alloc | apply pw_below_drewN | apply below_drew1) | exact HB.out)⟩⟩
       ·rw [if_neg c8] at H
        exact absurd H (by simp)
      ·rw [if_neg c7] at H
       exact absurd H (by simp)
     ·rw [if_neg c6] at H
      have c6b0 : decide (x4_1 < (l0.length : Int)) = false := decide_eq_false c6
      clear c6
      obtain rfl := Option.some.inj H
      simp only [Option.some.injEq, Prod.mk.injEq] at H
      obtain ⟨rfl⟩ := H
      go_wp2
      go_ret
      exact ⟨_, by first | rfl | (simp [errW_none, errW_some] <;> rfl) | (simp [*, errW_none, errW_some] <;> rfl), by (with_reducible repeat (first | apply Kd.R_alloc | apply Kd.R_drewN | apply Kd.R_drew)); exact HO_3.out, by repeat (first | (with_reducible first | exact HB.out | apply below_alloc | apply pw_below_drewN | apply below_drew1) | exact HB.out)⟩
  ·rw [if_neg c3] at H
   exact absurd H (by simp)
 ·rw [if_neg c2] at H
  exact absurd H (by simp)
/-! ### laws_toRelation: function 14 -/
def laws_toRelation.f (k : Nat) (a0_0 : Int) (a0_1 : Int) (l0_2 : List Bool) (l0_3 : List (List Int)) : Option (Int × Int × List Bool × (List (List Int))) := (laws_toBoolS.f k l0_2).bind fun t109 => ((laws_toInt64SS.f l0_3).bind fun t112 => (some (a0_0, a0_1, t109, t112)))
theorem laws_toRelation.mono : ∀ a0 a1 a2 a3 k, LeO (laws_toRelation.f k a0 a1 a2 a3) (laws_toRelation.f (k + 1) a0 a1 a2 a3) := by
 intro a0 a1 a2 a3 k
 unfold laws_toRelation.f
 repeat' first
   | (with_reducible exact laws_toBoolS.mono _ _)
   | (with_reducible exact LeO.refl _)
   | (with_reducible exact LeO.none _)
   | (with_reducible refine LeO.ite ?_ ?_)
   | (with_reducible refine LeO.bind ?_ (fun _ => ?_))
   | exact laws_toBoolS.mono _ _
   | exact LeO.none _
   | refine LeO.ite ?_ ?_
   | refine LeO.bind ?_ (fun _ => ?_)
set_option maxHeartbeats 8000000 in
set_option maxRecDepth 100000 in
theorem laws_toRelation.calls (k : Nat) (a0_0 : Int) (a0_1 : Int) (A0_2 : Option Addr) (c0_2 : Nat) (l0_2 : List Bool) (A0_3 : Option Addr) (c0_3 : Nat) (l0_3 : List (List Int)) (r1 : Int) (r2 : Int) (r3 : List Bool) (r4 : List (List Int)) (w : World) (hr0_2 : Kd.C Kd.bool w A0_2 l0_2.length l0_2) (hc0_2 : l0_2.length ≤ c0_2) (hr0_3 : Kd.C (Kd.slice 2 (Kd.int .i64)) w A0_3 l0_3.length l0_3) (hc0_3 : l0_3.length ≤ c0_3) (h : laws_toRelation.f k a0_0 a0_1 l0_2 l0_3 = some (r1, r2, r3, r4)) :
  Calls Tryd.prog 14 #[.agg #[.int .i64 a0_0, .int .i64 a0_1, .slice A0_2 l0_2.length c0_2, .slice A0_3 l0_3.length c0_3]] w fun e w' => ∃ v2_ v3_ : Value, e = .returned (.agg #[.int .i64 r1, .int .i64 r2, v2_, v3_]) ∧ Kd.R Kd.bool 4 w' w.heap.size (fun _ => True) v2_ r3 ∧ Kd.S (Kd.slice 2 (Kd.int .i64)) 86 w' w.heap.size (fun _ => True) v3_ r4 ∧ Below w.heap.size w w' := by
 have hu25 := Tryd.underlying25
 have hu29 := Tryd.underlying29
 have HR0_2 := Aside0.mk hr0_2
 have HC0_2 := Aside0.mk hc0_2
 clear hr0_2 hc0_2
 have HR0_3 := Aside0.mk hr0_3
 have HC0_3 := Aside0.mk hc0_3
 clear hr0_3 hc0_3
 have HB := Aside0.mk (Below.refl w.heap.size w)
 have H : ((laws_toBoolS.f k l0_2).bind fun t109 => ((laws_toInt64SS.f l0_3).bind fun t112 => (some (a0_0, a0_1, t109, t112)))) = some (r1, r2, r3, r4) := h
 clear h
 replace H := Option.bind_eq_some_iff.mp H
 obtain ⟨t109, A20, H⟩ := H
 replace H : ((laws_toInt64SS.f l0_3).bind fun t112 => (some (a0_0, a0_1, t109, t112))) = some (r1, r2, r3, r4) := H
 have A2 := Aside0.mk A20
 clear A20
 replace H := Option.bind_eq_some_iff.mp H
 obtain ⟨t112, A30, H⟩ := H
 replace H : (some (a0_0, a0_1, t109, t112)) = some (r1, r2, r3, r4) := H
 have A3 := Aside0.mk A30
 clear A30
 simp only [Option.some.injEq, Prod.mk.injEq] at H
 obtain ⟨rfl, rfl, rfl, rfl⟩ := H
 go_enter Tryd.func14, Tryd.ntmps14
 go_wp2_with (first | ((with_reducible refine gate_dst (N := 1) rfl ?_); refine box_event ?hg (N := 1) ?hd (cs := #[.int .i64 a0_0, .int .i64 a0_1, .slice A0_2 l0_2.length c0_2, .slice A0_3 l0_3.length c0_3]) (t := 25) ?hr ?_; (case hd => rfl); (case hg => rfl); (case hr => first | (go_simp; done) | (go_simp; rfl)); intro gb106 hg w4 hbox hb; have n0_ := Aside0.mk (below_step (by repeat (first | (with_reducible first | exact HB.out | apply below_alloc | apply pw_below_drewN | apply below_drew1) | exact HB.out)) hb); have n1_ := Aside0.mk (hbox); have n2_ := Aside0.mk ((by rw [hg]; exact (below_size (by repeat (first | (with_reducible first | exact HB.out | apply below_alloc | apply pw_below_drewN | apply below_drew1) | exact HB.out))) : w.heap.size ≤ gb106)); have n3_ := Aside0.mk ((by rw [hg]; exact (below_size (by repeat (first | (with_reducible first | exact HB.out | apply below_alloc | apply pw_below_drewN | apply below_drew1) | exact HB.out))) : w.heap.size ≤ gb106)); clear HB; have HB := n0_; have BK106 := n1_; have GW106 := n2_; have GE106 := n3_; clear n0_ n1_ n2_ n3_; clear hb hbox hg) | ((with_reducible refine gate_dst (N := 2) rfl ?_); refine box_event ?hg (N := 2) ?hd (cs := #[.int .i64 0, .int .i64 0, .slice none 0 0, .slice none 0 0]) (t := 29) ?hr ?_; (case hd => rfl); (case hg => rfl); (case hr => first | (go_simp; done) | (go_simp; rfl)); intro gb107 hg w5 hbox hb; have n0_ := Aside0.mk (blk_below (g := gb106) (o := .cells #[.int .i64 a0_0, .int .i64 a0_1, .slice A0_2 l0_2.length c0_2, .slice A0_3 l0_3.length c0_3] 25 (0, 0)) (by (with_reducible repeat (first | refine blk_drewN ?_ _ | refine blk_drew ?_ | refine blk_alloc ?_ _)); exact BK106.out) hb); have n1_ := Aside0.mk (below_step (by repeat (first | (with_reducible first | exact HB.out | apply below_alloc | apply pw_below_drewN | apply below_drew1 | refine below_set ?_ GE106.out) | exact HB.out)) hb); have n2_ := Aside0.mk (hbox); have n3_ := Aside0.mk ((by rw [hg]; exact (below_size (by repeat (first | (with_reducible first | exact HB.out | apply below_alloc | apply pw_below_drewN | apply below_drew1 | refine below_set ?_ GE106.out) | exact HB.out))) : w.heap.size ≤ gb107)); have n4_ := Aside0.mk ((by rw [hg]; exact (below_size (by repeat (first | (with_reducible first | exact HB.out | apply below_alloc | apply pw_below_drewN | apply below_drew1 | refine below_set ?_ GE106.out) | exact HB.out))) : w.heap.size ≤ gb107)); have n5_ := Aside0.mk ((by rw [hg]; exact Nat.ne_of_lt (blk_lt (g := gb106) (o := .cells #[.int .i64 a0_0, .int .i64 a0_1, .slice A0_2 l0_2.length c0_2, .slice A0_3 l0_3.length c0_3] 25 (0, 0)) (by (with_reducible repeat (first | refine blk_drewN ?_ _ | refine blk_drew ?_ | refine blk_alloc ?_ _)); exact BK106.out)) : gb106 ≠ gb107)); have n6_ := Aside0.mk ((by rw [hg]; exact Nat.ne_of_gt (blk_lt (g := gb106) (o := .cells #[.int .i64 a0_0, .int .i64 a0_1, .slice A0_2 l0_2.length c0_2, .slice A0_3 l0_3.length c0_3] 25 (0, 0)) (by (with_reducible repeat (first | refine blk_drewN ?_ _ | refine blk_drew ?_ | refine blk_alloc ?_ _)); exact BK106.out)) : gb107 ≠ gb106)); clear BK106; clear HB; have BK106 := n0_; have HB := n1_; have BK107 := n2_; have GW107 := n3_; have GE107 := n4_; have NB106_107 := n5_; have NB107_106 := n6_; clear n0_ n1_ n2_ n3_ n4_ n5_ n6_; clear hb hbox hg) | ((with_reducible refine gate_dst (N := 3) rfl ?_); refine box_event ?hg (N := 3) ?hd (cs := #[.int .i64 0, .int .i64 0, .slice none 0 0, .slice none 0 0]) (t := 29) ?hr ?_; (case hd => rfl); (case hg => rfl); (case hr => first | (go_simp; done) | (go_simp; rfl)); intro gb108 hg w6 hbox hb; have n0_ := Aside0.mk (blk_below (g := gb106) (o := .cells #[.int .i64 a0_0, .int .i64 a0_1, .slice A0_2 l0_2.length c0_2, .slice A0_3 l0_3.length c0_3] 25 (0, 0)) (by (with_reducible repeat (first | refine blk_drewN ?_ _ | refine blk_drew ?_ | refine blk_alloc ?_ _)); exact BK106.out) hb); have n1_ := Aside0.mk (blk_below (g := gb107) (o := .cells #[.int .i64 0, .int .i64 0, .slice none 0 0, .slice none 0 0] 29 (0, 0)) (by (with_reducible repeat (first | refine blk_drewN ?_ _ | refine blk_drew ?_ | refine blk_alloc ?_ _)); exact BK107.out) hb); have n2_ := Aside0.mk (below_step (by repeat (first | (with_reducible first | exact HB.out | apply below_alloc | apply pw_below_drewN | apply below_drew1 | refine below_set ?_ GE106.out | refine below_set ?_ GE107.out) | exact HB.out)) hb); have n3_ := Aside0.mk (hbox); have n4_ := Aside0.mk ((by rw [hg]; exact (below_size (by repeat (first | (with_reducible first | exact HB.out | apply below_alloc | apply pw_below_drewN | apply below_drew1 | refine below_set ?_ GE106.out | refine below_set ?_ GE107.out) | exact HB.out))) : w.heap.size ≤ gb108)); have n5_ := Aside0.mk ((by rw [hg]; exact (below_size (by repeat (first | (with_reducible first | exact HB.out | apply below_alloc | apply pw_below_drewN | apply below_drew1 | refine below_set ?_ GE106.out | refine below_set ?_ GE107.out) | exact HB.out))) : w.heap.size ≤ gb108)); have n6_ := Aside0.mk ((by rw [hg]; exact Nat.ne_of_lt (blk_lt (g := gb106) (o := .cells #[.int .i64 a0_0, .int .i64 a0_1, .slice A0_2 l0_2.length c0_2, .slice A0_3 l0_3.length c0_3] 25 (0, 0)) (by (with_reducible repeat (first | refine blk_drewN ?_ _ | refine blk_drew ?_ | refine blk_alloc ?_ _)); exact BK106.out)) : gb106 ≠ gb108)); have n7_ := Aside0.mk ((by rw [hg]; exact Nat.ne_of_gt (blk_lt (g := gb106) (o := .cells #[.int .i64 a0_0, .int .i64 a0_1, .slice A0_2 l0_2.length c0_2, .slice A0_3 l0_3.length c0_3] 25 (0, 0)) (by (with_reducible repeat (first | refine blk_drewN ?_ _ | refine blk_drew ?_ | refine blk_alloc ?_ _)); exact BK106.out)) : gb108 ≠ gb106)); have n8_ := Aside0.mk ((by rw [hg]; exact Nat.ne_of_lt (blk_lt (g := gb107) (o := .cells #[.int .i64 0, .int .i64 0, .slice none 0 0, .slice none 0 0] 29 (0, 0)) (by (with_reducible repeat (first | refine blk_drewN ?_ _ | refine blk_drew ?_ | refine blk_alloc ?_ _)); exact BK107.out)) : gb107 ≠ gb108)); have n9_ := Aside0.mk ((by rw [hg]; exact Nat.ne_of_gt (blk_lt (g := gb107) (o := .cells #[.int .i64 0, .int .i64 0, .slice none 0 0, .slice none 0 0] 29 (0, 0)) (by (with_reducible repeat (first | refine blk_drewN ?_ _ | refine blk_drew ?_ | refine blk_alloc ?_ _)); exact BK107.out)) : gb108 ≠ gb107)); clear BK106; clear BK107; clear HB; have BK106 := n0_; have BK107 := n1_; have HB := n2_; have BK108 := n3_; have GW108 := n4_; have GE108 := n5_; have NB106_108 := n6_; have NB108_106 := n7_; have NB107_108 := n8_; have NB108_107 := n9_; clear n0_ n1_ n2_ n3_ n4_ n5_ n6_ n7_ n8_ n9_; clear hb hbox hg; have hnb7 := NB106_107.out; have hnc7 := NB107_106.out; have hnb8 := NB106_108.out; have hnc8 := NB108_106.out; have hcz9_0 : w6.cell? ⟨gb106, 0, none⟩ = some (.int .i64 a0_0) := (blk_cell BK106.out 0).trans rfl; have hcz9_1 : w6.cell? ⟨gb106, 1, none⟩ = some (.int .i64 a0_1) := (blk_cell BK106.out 1).trans rfl; have hcz9_2 : w6.cell? ⟨gb106, 2, none⟩ = some (.slice A0_2 l0_2.length c0_2) := (blk_cell BK106.out 2).trans rfl; have hcz9_3 : w6.cell? ⟨gb106, 3, none⟩ = some (.slice A0_3 l0_3.length c0_3) := (blk_cell BK106.out 3).trans rfl; have hfz9_0 := blk_frozen BK106.out 0; have hfz9_1 := blk_frozen BK106.out 1; have hfz9_2 := blk_frozen BK106.out 2; have hfz9_3 := blk_frozen BK106.out 3; have hnb10 := NB108_107.out; have hnc10 := NB107_108.out; have hcz11_0 : w6.cell? ⟨gb108, 0, none⟩ = some (.int .i64 0) := (blk_cell BK108.out 0).trans rfl; have hcz11_1 : w6.cell? ⟨gb108, 1, none⟩ = some (.int .i64 0) := (blk_cell BK108.out 1).trans rfl; have hcz11_2 : w6.cell? ⟨gb108, 2, none⟩ = some (.slice none 0 0) := (blk_cell BK108.out 2).trans rfl; have hcz11_3 : w6.cell? ⟨gb108, 3, none⟩ = some (.slice none 0 0) := (blk_cell BK108.out 3).trans rfl; have hfz11_0 := blk_frozen BK108.out 0; have hfz11_1 := blk_frozen BK108.out 1; have hfz11_2 := blk_frozen BK108.out 2; have hfz11_3 := blk_frozen BK108.out 3) | ((with_reducible refine gate_callee (f := 50) rfl ?_); refine goesL_ (some 12) rfl rfl Tryd.func50 (by kernel_rfl) rfl #[.slice A0_2 l0_2.length c0_2] rfl (by (try simp only [List.map_toArray, List.map_cons, List.map_nil]); first | done | rfl | (simp only [List.length_drop, List.length_take]; rfl)) ?_; (with_reducible refine (laws_toBoolS.calls k _ _ l0_2 t109 _ ?side1 ?side2 A2.out).mono ?_); (case side1 => exact Kd.C_below HR0_2.out (by repeat (first | (with_reducible first | exact HB.out | apply below_alloc | apply pw_below_drewN | apply below_drew1 | refine below_set ?_ GE106.out | refine below_set ?_ GE107.out | refine below_set ?_ GE108.out) | exact HB.out))); (case side2 => exact HC0_2.out); rintro e w12 ⟨v110, rfl, ho0, hb⟩; refine ⟨_, rfl, ?_⟩; have n0_ := Aside0.mk (Kd.R_lower ho0 (below_size (by repeat (first | (with_reducible first | exact HB.out | apply below_alloc | apply pw_below_drewN | apply below_drew1 | refine below_set ?_ GE106.out | refine below_set ?_ GE107.out | refine below_set ?_ GE108.out) | exact HB.out)))); have n1_ := Aside0.mk (blk_below (g := gb106) (o := .cells #[.int .i64 a0_0, .int .i64 a0_1, .slice A0_2 l0_2.length c0_2, .slice A0_3 l0_3.length c0_3] 25 (0, 0)) (by (with_reducible repeat (first | refine blk_drewN ?_ _ | refine blk_drew ?_ | refine blk_alloc ?_ _)); refine blk_far ?_ NB106_108.out _; (with_reducible repeat (first | refine blk_drewN ?_ _ | refine blk_drew ?_ | refine blk_alloc ?_ _)); refine blk_far ?_ NB106_108.out _; (with_reducible repeat (first | refine blk_drewN ?_ _ | refine blk_drew ?_ | refine blk_alloc ?_ _)); exact BK106.out) hb); have n2_ := Aside0.mk (blk_below (g := gb107) (o := .cells #[.int .i64 0, .int .i64 0, .slice none 0 0, .slice none 0 0] 29 (0, 0)) (by (with_reducible repeat (first | refine blk_drewN ?_ _ | refine blk_drew ?_ | refine blk_alloc ?_ _)); refine blk_far ?_ NB107_108.out _; (with_reducible repeat (first | refine blk_drewN ?_ _ | refine blk_drew ?_ | refine blk_alloc ?_ _)); refine blk_far ?_ NB107_108.out _; (with_reducible repeat (first | refine blk_drewN ?_ _ | refine blk_drew ?_ | refine blk_alloc ?_ _)); exact BK107.out) hb); have n3_ := Aside0.mk (blk_below (g := gb108) (o := .cells #[.int .i64 a0_0, .int .i64 a0_1, .slice none 0 0, .slice none 0 0] 29 (0, 0)) (by (with_reducible repeat (first | refine blk_drewN ?_ _ | refine blk_drew ?_ | refine blk_alloc ?_ _)); refine blk_put (cs := #[.int .i64 a0_0, .int .i64 0, .slice none 0 0, .slice none 0 0]) ?_ 1 _ rfl; (with_reducible repeat (first | refine blk_drewN ?_ _ | refine blk_drew ?_ | refine blk_alloc ?_ _)); refine blk_put (cs := #[.int .i64 0, .int .i64 0, .slice none 0 0, .slice none 0 0]) ?_ 0 _ rfl; (with_reducible repeat (first | refine blk_drewN ?_ _ | refine blk_drew ?_ | refine blk_alloc ?_ _)); exact BK108.out) hb); have n4_ := Aside0.mk (below_step (by repeat (first | (with_reducible first | exact HB.out | apply below_alloc | apply pw_below_drewN | apply below_drew1 | refine below_set ?_ GE106.out | refine below_set ?_ GE107.out | refine below_set ?_ GE108.out) | exact HB.out)) hb); clear BK106; clear BK107; clear BK108; clear HB; have HO111 := n0_; have BK106 := n1_; have BK107 := n2_; have BK108 := n3_; have HB := n4_; clear n0_ n1_ n2_ n3_ n4_; (try clear hb); (try clear hb2); (try clear hk); (try clear hi); (try clear ho0); obtain ⟨Ao13, co13, eo13⟩ := Kd.R_slice HO111.out; subst eo13; have hcz14_0 : w12.cell? ⟨gb108, 0, none⟩ = some (.int .i64 a0_0) := (blk_cell BK108.out 0).trans rfl; have hcz14_1 : w12.cell? ⟨gb108, 1, none⟩ = some (.int .i64 a0_1) := (blk_cell BK108.out 1).trans rfl; have hcz14_2 : w12.cell? ⟨gb108, 2, none⟩ = some (.slice none 0 0) := (blk_cell BK108.out 2).trans rfl; have hcz14_3 : w12.cell? ⟨gb108, 3, none⟩ = some (.slice none 0 0) := (blk_cell BK108.out 3).trans rfl; have hfz14_0 := blk_frozen BK108.out 0; have hfz14_1 := blk_frozen BK108.out 1; have hfz14_2 := blk_frozen BK108.out 2; have hfz14_3 := blk_frozen BK108.out 3; have hcz15_0 : w12.cell? ⟨gb106, 0, none⟩ = some (.int .i64 a0_0) := (blk_cell BK106.out 0).trans rfl; have hcz15_1 : w12.cell? ⟨gb106, 1, none⟩ = some (.int .i64 a0_1) := (blk_cell BK106.out 1).trans rfl; have hcz15_2 : w12.cell? ⟨gb106, 2, none⟩ = some (.slice A0_2 l0_2.length c0_2) := (blk_cell BK106.out 2).trans rfl; have hcz15_3 : w12.cell? ⟨gb106, 3, none⟩ = some (.slice A0_3 l0_3.length c0_3) := (blk_cell BK106.out 3).trans rfl; have hfz15_0 := blk_frozen BK106.out 0; have hfz15_1 := blk_frozen BK106.out 1; have hfz15_2 := blk_frozen BK106.out 2; have hfz15_3 := blk_frozen BK106.out 3) | ((with_reducible refine gate_callee (f := 51) rfl ?_); refine goesL_ (some 16) rfl rfl Tryd.func51 (by kernel_rfl) rfl #[.slice A0_3 l0_3.length c0_3] rfl (by (try simp only [List.map_toArray, List.map_cons, List.map_nil]); first | done | rfl | (simp only [List.length_drop, List.length_take]; rfl)) ?_; (with_reducible refine (laws_toInt64SS.calls _ _ l0_3 t112 _ ?side1 ?side2 A3.out).mono ?_); (case side1 => exact Kd.C_below HR0_3.out (by repeat (first | (with_reducible first | exact HB.out | apply below_alloc | apply pw_below_drewN | apply below_drew1 | refine below_set ?_ GE106.out | refine below_set ?_ GE107.out | refine below_set ?_ GE108.out) | exact HB.out))); (case side2 => exact HC0_3.out); rintro e w16 ⟨v113, rfl, ho0, hb⟩; refine ⟨_, rfl, ?_⟩; have n0_ := Aside0.mk (Kd.R_below (by (with_reducible repeat (first | apply Kd.R_alloc | apply Kd.R_drewN | apply Kd.R_drew)); exact (Kd.R_mono (Kd.R_far (p := ⟨gb108, 2, none⟩) (Kd.R_types HO111.out BK108.out (by decide)) (fun _ hk => hk.2) (.slice Ao13 t109.length co13)) (fun _ h_ => h_.1))) hb); have n1_ := Aside0.mk (Kd.S_lower ho0 (below_size (by repeat (first | (with_reducible first | exact HB.out | apply below_alloc | apply pw_below_drewN | apply below_drew1 | refine below_set ?_ GE106.out | refine below_set ?_ GE107.out | refine below_set ?_ GE108.out) | exact HB.out)))); have n2_ := Aside0.mk (blk_below (g := gb106) (o := .cells #[.int .i64 a0_0, .int .i64 a0_1, .slice A0_2 l0_2.length c0_2, .slice A0_3 l0_3.length c0_3] 25 (0, 0)) (by (with_reducible repeat (first | refine blk_drewN ?_ _ | refine blk_drew ?_ | refine blk_alloc ?_ _)); refine blk_far ?_ NB106_108.out _; (with_reducible repeat (first | refine blk_drewN ?_ _ | refine blk_drew ?_ | refine blk_alloc ?_ _)); exact BK106.out) hb); have n3_ := Aside0.mk (blk_below (g := gb107) (o := .cells #[.int .i64 0, .int .i64 0, .slice none 0 0, .slice none 0 0] 29 (0, 0)) (by (with_reducible repeat (first | refine blk_drewN ?_ _ | refine blk_drew ?_ | refine blk_alloc ?_ _)); refine blk_far ?_ NB107_108.out _; (with_reducible repeat (first | refine blk_drewN ?_ _ | refine blk_drew ?_ | refine blk_alloc ?_ _)); exact BK107.out) hb); have n4_ := Aside0.mk (blk_below (g := gb108) (o := .cells #[.int .i64 a0_0, .int .i64 a0_1, .slice Ao13 t109.length co13, .slice none 0 0] 29 (0, 0)) (by (with_reducible repeat (first | refine blk_drewN ?_ _ | refine blk_drew ?_ | refine blk_alloc ?_ _)); refine blk_put (cs := #[.int .i64 a0_0, .int .i64 a0_1, .slice none 0 0, .slice none 0 0]) ?_ 2 _ rfl; (with_reducible repeat (first | refine blk_drewN ?_ _ | refine blk_drew ?_ | refine blk_alloc ?_ _)); exact BK108.out) hb); have n5_ := Aside0.mk (below_step (by repeat (first | (with_reducible first | exact HB.out | apply below_alloc | apply pw_below_drewN | apply below_drew1 | refine below_set ?_ GE106.out | refine below_set ?_ GE107.out | refine below_set ?_ GE108.out) | exact HB.out)) hb); clear HO111; clear BK106; clear BK107; clear BK108; clear HB; have HO111 := n0_; have HO114 := n1_; have BK106 := n2_; have BK107 := n3_; have BK108 := n4_; have HB := n5_; clear n0_ n1_ n2_ n3_ n4_ n5_; (try clear hb); (try clear hb2); (try clear hk); (try clear hi); (try clear ho0); obtain ⟨Ao17, co17, eo17⟩ := Kd.S_slice HO114.out; subst eo17; have hcz18_0 : w16.cell? ⟨gb108, 0, none⟩ = some (.int .i64 a0_0) := (blk_cell BK108.out 0).trans rfl; have hcz18_1 : w16.cell? ⟨gb108, 1, none⟩ = some (.int .i64 a0_1) := (blk_cell BK108.out 1).trans rfl; have hcz18_2 : w16.cell? ⟨gb108, 2, none⟩ = some (.slice Ao13 t109.length co13) := (blk_cell BK108.out 2).trans rfl; have hcz18_3 : w16.cell? ⟨gb108, 3, none⟩ = some (.slice none 0 0) := (blk_cell BK108.out 3).trans rfl; have hfz18_0 := blk_frozen BK108.out 0; have hfz18_1 := blk_frozen BK108.out 1; have hfz18_2 := blk_frozen BK108.out 2; have hfz18_3 := blk_frozen BK108.out 3; have hcz19_0 : w16.cell? ⟨gb107, 0, none⟩ = some (.int .i64 0) := (blk_cell BK107.out 0).trans rfl; have hcz19_1 : w16.cell? ⟨gb107, 1, none⟩ = some (.int .i64 0) := (blk_cell BK107.out 1).trans rfl; have hcz19_2 : w16.cell? ⟨gb107, 2, none⟩ = some (.slice none 0 0) := (blk_cell BK107.out 2).trans rfl; have hcz19_3 : w16.cell? ⟨gb107, 3, none⟩ = some (.slice none 0 0) := (blk_cell BK107.out 3).trans rfl; have hfz19_0 := blk_frozen BK107.out 0; have hfz19_1 := blk_frozen BK107.out 1; have hfz19_2 := blk_frozen BK107.out 2; have hfz19_3 := blk_frozen BK107.out 3))
 refine bodyPost_ret (results_cell_row rfl _ _ gb107 29 #[.int .i64 a0_0, .int .i64 a0_1, .slice Ao13 t109.length co13, .slice Ao17 t112.length co17] (0, 0) _ rfl (by (with_reducible repeat (first | refine blk_drewN ?_ _ | refine blk_drew ?_ | refine blk_alloc ?_ _)); refine blk_put (cs := #[.int .i64 a0_0, .int .i64 a0_1, .slice Ao13 t109.length co13, .slice none 0 0]) ?_ 3 _ rfl; (with_reducible repeat (first | refine blk_drewN ?_ _ | refine blk_drew ?_ | refine blk_alloc ?_ _)); refine blk_put (cs := #[.int .i64 a0_0, .int .i64 a0_1, .slice none 0 0, .slice none 0 0]) ?_ 2 _ rfl; (with_reducible repeat (first | refine blk_drewN ?_ _ | refine blk_drew ?_ | refine blk_alloc ?_ _)); refine blk_put (cs := #[.int .i64 a0_0, .int .i64 0, .slice none 0 0, .slice none 0 0]) ?_ 1 _ rfl; (with_reducible repeat (first | refine blk_drewN ?_ _ | refine blk_drew ?_ | refine blk_alloc ?_ _)); refine blk_put (cs := #[.int .i64 0, .int .i64 0, .slice none 0 0, .slice none 0 0]) ?_ 0 _ rfl; (with_reducible repeat (first | refine blk_drewN ?_ _ | refine blk_drew ?_ | refine blk_alloc ?_ _)); refine blk_far ?_ NB107_108.out _; (with_reducible repeat (first | refine blk_drewN ?_ _ | refine blk_drew ?_ | refine blk_alloc ?_ _)); exact BK107.out) Tryd.underlying29 rfl (by kernel_rfl)) rfl ?_
 exact ⟨_, _, by first | rfl | (simp [errW_none, errW_some] <;> rfl) | (simp [*, errW_none, errW_some] <;> rfl), by (with_reducible repeat (first | apply Kd.R_alloc | apply Kd.R_drewN | apply Kd.R_drew)); exact Kd.R_mono (Kd.R_far (p := ⟨gb107, 3, none⟩) (Kd.R_far (p := ⟨gb107, 2, none⟩) (Kd.R_far (p := ⟨gb107, 1, none⟩) (Kd.R_far (p := ⟨gb107, 0, none⟩) (Kd.R_far (p := ⟨gb108, 3, none⟩) (Kd.R_types (Kd.R_types HO111.out BK108.out (by decide)) BK107.out (by decide)) (fun _ hk => hk.1.2) (.slice Ao17 t112.length co17)) (fun _ hk => hk.2) (.int .i64 a0_0)) (fun _ hk => hk.2) (.int .i64 a0_1)) (fun _ hk => hk.2) (.slice Ao13 t109.length co13)) (fun _ hk => hk.2) (.slice Ao17 t112.length co17)) (fun _ hk => trivial), by (with_reducible repeat (first | apply Kd.S_alloc | apply Kd.S_drewN | apply Kd.S_drew)); exact Kd.S_mono (Kd.S_far (p := ⟨gb107, 3, none⟩) (Kd.S_far (p := ⟨gb107, 2, none⟩) (Kd.S_far (p := ⟨gb107, 1, none⟩) (Kd.S_far (p := ⟨gb107, 0, none⟩) (Kd.S_far (p := ⟨gb108, 3, none⟩) (Kd.S_types (Kd.S_types HO114.out BK108.out (by decide)) BK107.out (by decide)) (fun _ hk => hk.1.2) (.slice Ao17 t112.length co17)) (fun _ hk => hk.2) (.int .i64 a0_0)) (fun _ hk => hk.2) (.int .i64 a0_1)) (fun _ hk => hk.2) (.slice Ao13 t109.length co13)) (fun _ hk => hk.2) (.slice Ao17 t112.length co17)) (fun _ hk => trivial), by repeat (first | (with_reducible first | exact HB.out | apply below_alloc | apply pw_below_drewN | apply below_drew1 | refine below_set ?_ GE106.out | refine below_set ?_ GE107.out | refine below_set ?_ GE108.out) | exact HB.out)⟩
/-! ### laws_szBoolS: function 45 -/
def laws_szBoolS.f (l0 : List Bool) (a1 : Int) : Option (Int) := if (wrap64 (a1 - (l0.length : Int))) < 0 then (some (-1)) else (some (wrap64 (a1 - (l0.length : Int))))
set_option maxHeartbeats 8000000 in
set_option maxRecDepth 100000 in
theorem laws_szBoolS.calls (A0 : Option Addr) (c0 : Nat) (l0 : List Bool) (a1 : Int) (r : Int) (w : World) (hr0 : Kd.C Kd.bool w A0 l0.length l0) (hc0 : l0.length ≤ c0) (h : laws_szBoolS.f l0 a1 = some r) :
  Calls Tryd.prog 45 #[.slice A0 l0.length c0, .int .i64 a1] w fun e w' => e = .returned (.int .i64 r) ∧ Drawn0 w w' := by
 have HR0 := Aside0.mk hr0
 have HC0 := Aside0.mk hc0
 clear hr0 hc0
 have H : (if (wrap64 (a1 - (l0.length : Int))) < 0 then (some (-1)) else (some (wrap64 (a1 - (l0.length : Int))))) = some r := h
 clear h
 by_cases c3 : (wrap64 (a1 - (l0.length : Int))) < 0
 ·rw [if_pos c3] at H
  have c3b0 : decide ((wrap64 (a1 - (l0.length : Int))) < 0) = true := decide_eq_true c3
  clear c3
  obtain rfl := Option.some.inj H
  simp only [Option.some.injEq, Prod.mk.injEq] at H
  obtain ⟨rfl⟩ := H
  go_enter Tryd.func45, Tryd.ntmps45
  go_wp2
  go_ret
  exact ⟨by first | rfl | (simp; done) | (simp [*]; done) | (simp [wrap64]; done), by repeat (first | exact Drawn0.refl _ | apply Drawn0.step)⟩
 ·rw [if_neg c3] at H
  have c3b0 : decide ((wrap64 (a1 - (l0.length : Int))) < 0) = false := decide_eq_false c3
  clear c3
  obtain rfl := Option.some.inj H
  simp only [Option.some.injEq, Prod.mk.injEq] at H
  obtain ⟨rfl⟩ := H
  go_enter Tryd.func45, Tryd.ntmps45
  go_wp2
  go_ret
  exact ⟨by first | rfl | (simp; done) | (simp [*]; done) | (simp [wrap64]; done), by repeat (first | exact Drawn0.refl _ | apply Drawn0.step)⟩
/-! ### laws_szInt64S: function 107 -/
def laws_szInt64S.f (l0 : List Int) (a1 : Int) : Option (Int) := if (wrap64 (a1 - (l0.length : Int))) < 0 then (some (-1)) else (some (wrap64 (a1 - (l0.length : Int))))
set_option maxHeartbeats 8000000 in
set_option maxRecDepth 100000 in
theorem laws_szInt64S.calls (A0 : Option Addr) (c0 : Nat) (l0 : List Int) (a1 : Int) (r : Int) (w : World) (hr0 : Kd.C (Kd.int .i64) w A0 l0.length l0) (hc0 : l0.length ≤ c0) (h : laws_szInt64S.f l0 a1 = some r) :
  Calls Tryd.prog 107 #[.slice A0 l0.length c0, .int .i64 a1] w fun e w' => e = .returned (.int .i64 r) ∧ Drawn0 w w' := by
 have HR0 := Aside0.mk hr0
 have HC0 := Aside0.mk hc0
 clear hr0 hc0
 have H : (if (wrap64 (a1 - (l0.length : Int))) < 0 then (some (-1)) else (some (wrap64 (a1 - (l0.length : Int))))) = some r := h
 clear h
 by_cases c3 : (wrap64 (a1 - (l0.length : Int))) < 0
 ·rw [if_pos c3] at H
  have c3b0 : decide ((wrap64 (a1 - (l0.length : Int))) < 0) = true := decide_eq_true c3
  clear c3
  obtain rfl := Option.some.inj H
  simp only [Option.some.injEq, Prod.mk.injEq] at H
  obtain ⟨rfl⟩ := H
  go_enter Tryd.func107, Tryd.ntmps107
  go_wp2
  go_ret
  exact ⟨by first | rfl | (simp; done) | (simp [*]; done) | (simp [wrap64]; done), by repeat (first | exact Drawn0.refl _ | apply Drawn0.step)⟩
 ·rw [if_neg c3] at H
  have c3b0 : decide ((wrap64 (a1 - (l0.length : Int))) < 0) = false := decide_eq_false c3
  clear c3
  obtain rfl := Option.some.inj H
  simp only [Option.some.injEq, Prod.mk.injEq] at H
  obtain ⟨rfl⟩ := H
  go_enter Tryd.func107, Tryd.ntmps107
  go_wp2
  go_ret
  exact ⟨by first | rfl | (simp; done) | (simp [*]; done) | (simp [wrap64]; done), by repeat (first | exact Drawn0.refl _ | apply Drawn0.step)⟩
/-! ### laws_szInt64SS: function 46 -/
def laws_szInt64SS.l0 : Nat → List (List Int) → Int → Int → Option (Int)
 | 0, _, _, _ => none
 | k + 1, x0, x1, x5 => if x5 < (x0.length : Int) then (if 0 ≤ x5 then ((laws_szInt64S.f (rd_L2 x0 x5) x1).bind fun t116 => (if t116 < 0 then (some (-1)) else (laws_szInt64SS.l0 k x0 t116 (wrap64 (x5 + 1))))) else (none)) else (some x1)
def laws_szInt64SS.f (k : Nat) (l0 : List (List Int)) (a1 : Int) : Option (Int) := if (wrap64 (a1 - (l0.length : Int))) < 0 then (some (-1)) else (laws_szInt64SS.l0 k l0 (wrap64 (a1 - (l0.length : Int))) 0)
theorem laws_szInt64SS.mono_l : ∀ k, (∀ y0 y1 y2, LeO (laws_szInt64SS.l0 k y0 y1 y2) (laws_szInt64SS.l0 (k + 1) y0 y1 y2))
 | 0 => fun _ _ _ r h => by simp [laws_szInt64SS.l0] at h
 | k + 1 => by
  have ih0 := laws_szInt64SS.mono_l k
  ·intro y0 y1 y2
   unfold laws_szInt64SS.l0
   repeat' first
   | (with_reducible exact ih0 _ _ _)
   | (with_reducible exact LeO.refl _)
   | (with_reducible exact LeO.none _)
   | (with_reducible refine LeO.ite ?_ ?_)
   | (with_reducible refine LeO.bind ?_ (fun _ => ?_))
   | exact ih0 _ _ _
   | exact LeO.none _
   | refine LeO.ite ?_ ?_
   | refine LeO.bind ?_ (fun _ => ?_)
theorem laws_szInt64SS.mono : ∀ a0 a1 k, LeO (laws_szInt64SS.f k a0 a1) (laws_szInt64SS.f (k + 1) a0 a1) := by
 intro a0 a1 k
 have ih0 := laws_szInt64SS.mono_l k
 unfold laws_szInt64SS.f
 repeat' first
   | (with_reducible exact ih0 _ _ _)
   | (with_reducible exact LeO.refl _)
   | (with_reducible exact LeO.none _)
   | (with_reducible refine LeO.ite ?_ ?_)
   | (with_reducible refine LeO.bind ?_ (fun _ => ?_))
   | exact ih0 _ _ _
   | exact LeO.none _
   | refine LeO.ite ?_ ?_
   | refine LeO.bind ?_ (fun _ => ?_)
set_option maxHeartbeats 8000000 in
set_option maxRecDepth 100000 in
theorem laws_szInt64SS.calls (k : Nat) (A0 : Option Addr) (c0 : Nat) (l0 : List (List Int)) (a1 : Int) (r : Int) (w : World) (hr0 : Kd.C (Kd.slice 2 (Kd.int .i64)) w A0 l0.length l0) (hc0 : l0.length ≤ c0) (h : laws_szInt64SS.f k l0 a1 = some r) :
  Calls Tryd.prog 46 #[.slice A0 l0.length c0, .int .i64 a1] w fun e w' => e = .returned (.int .i64 r) ∧ Drawn0 w w' := by
 have HR0 := Aside0.mk hr0
 have HC0 := Aside0.mk hc0
 clear hr0 hc0
 have H : (if (wrap64 (a1 - (l0.length : Int))) < 0 then (some (-1)) else (laws_szInt64SS.l0 k l0 (wrap64 (a1 - (l0.length : Int))) 0)) = some r := h
 clear h
 by_cases c3 : (wrap64 (a1 - (l0.length : Int))) < 0
 ·rw [if_pos c3] at H
  have c3b0 : decide ((wrap64 (a1 - (l0.length : Int))) < 0) = true := decide_eq_true c3
  clear c3
  obtain rfl := Option.some.inj H
  simp only [Option.some.injEq, Prod.mk.injEq] at H
  obtain ⟨rfl⟩ := H
  go_enter Tryd.func46, Tryd.ntmps46
  go_wp2
  go_ret
  exact ⟨by first | rfl | (simp; done) | (simp [*]; done) | (simp [wrap64]; done), by repeat (first | exact Drawn0.refl _ | apply Drawn0.step)⟩
 ·rw [if_neg c3] at H
  have c3b0 : decide ((wrap64 (a1 - (l0.length : Int))) < 0) = false := decide_eq_false c3
  clear c3
  have H' := Aside0.mk H
  clear H
  go_enter Tryd.func46, Tryd.ntmps46
  go_wp2
  go_loopg [1, 5] k (fun kq v1 v5 w' => ∃ (x1_1 : Int) (x5_1 : Int), v1 = .int .i64 x1_1 ∧ v5 = .int .i64 x5_1 ∧ Aside0 (laws_szInt64SS.l0 kq l0 x1_1 x5_1 = some r) ∧ Aside0 (kq ≤ k) ∧ Drawn0 w w')
  case atStart => exact ⟨(wrap64 (a1 - (l0.length : Int))), (0), (by first | rfl | (simp; done) | (simp [*]; done) | (simp [wrap64]; done)), (by first | rfl | (simp; done) | (simp [*]; done) | (simp [wrap64]; done)), H', ⟨Nat.le_refl _⟩, by repeat (first | exact Drawn0.refl _ | apply Drawn0.step)⟩
  case round =>
   clear H'
   try clear p2
   try clear c3
   try clear c3b0
   obtain ⟨x1_1, x5_1, rfl, rfl, HA, HK1, ⟨m1, rfl⟩⟩ := hrel
   cases gk with
   | zero => exact absurd HA.out (by simp [laws_szInt64SS.l0])
   | succ k1 =>
    have H := HA.out
    clear HA
    simp only [laws_szInt64SS.l0] at H
    by_cases c4 : x5_1 < (l0.length : Int)
    ·rw [if_pos c4] at H
     have c4b0 : decide (x5_1 < (l0.length : Int)) = true := decide_eq_true c4
     clear c4
     by_cases c5 : 0 ≤ x5_1
     ·rw [if_pos c5] at H
      have c5b0 : decide (0 ≤ x5_1) = true := decide_eq_true c5
      clear c5
      replace H := Option.bind_eq_some_iff.mp H
      obtain ⟨t116, A60, H⟩ := H
      replace H : (if t116 < 0 then (some (-1)) else (laws_szInt64SS.l0 k1 l0 t116 (wrap64 (x5_1 + 1)))) = some r := H
      have A6 := Aside0.mk A60
      clear A60
      by_cases c7 : t116 < 0
      ·rw [if_pos c7] at H
       have c7b0 : decide (t116 < 0) = true := decide_eq_true c7
       clear c7
       obtain rfl := Option.some.inj H
       simp only [Option.some.injEq, Prod.mk.injEq] at H
       obtain ⟨rfl⟩ := H
       have p115 : 0 ≤ (x5_1 : Int) := of_decide_eq_true (by first | (with_reducible assumption) | assumption)
       have q115 : x5_1 < (l0.length : Int) := of_decide_eq_true (by first | (with_reducible assumption) | assumption)
       obtain ⟨ad115, A115_0, c115_0, e115, hx115_0, hl115_0, hi115_0⟩ := at_L2 HR0.out x5_1 p115 q115
       cases e115
       have HR115_0 := Aside0.mk hi115_0
       have HC115_0 := Aside0.mk hl115_0
       clear hi115_0 hl115_0
       replace p115 := eq_true p115
       replace q115 := eq_true q115
       go_wp2_with (first | ((with_reducible refine gate_callee (f := 107) rfl ?_); refine goesL_ (some 23) rfl rfl Tryd.func107 (by kernel_rfl) rfl #[.slice A115_0 (rd_L2 l0 x5_1).length c115_0, .int .i64 x1_1] rfl (by (try simp only [List.map_toArray, List.map_cons, List.map_nil]); first | done | rfl | (simp only [List.length_drop, List.length_take]; rfl)) ?_; (with_reducible refine (laws_szInt64S.calls _ _ (rd_L2 l0 x5_1) x1_1 t116 _ ?side1 ?side2 A6.out).mono ?_); (case side1 => repeat (first | exact HR115_0.out | (with_reducible refine Kd.C_alloc ?_ _) | (with_reducible refine Kd.C_drewN ?_ _) | (with_reducible refine Kd.C_drew ?_))); (case side2 => exact HC115_0.out); rintro e w' ⟨rfl, ⟨nd, rfl⟩⟩; refine ⟨_, rfl, ?_⟩))
       go_ret
       exact ⟨by first | rfl | (simp; done) | (simp [*]; done) | (simp [wrap64]; done), by repeat (first | exact Drawn0.refl _ | apply Drawn0.step)⟩
      ·rw [if_neg c7] at H
       have c7b0 : decide (t116 < 0) = false := decide_eq_false c7
       clear c7
       have H' := Aside0.mk H
       clear H
       have p115 : 0 ≤ (x5_1 : Int) := of_decide_eq_true (by first | (with_reducible assumption) | assumption)
       have q115 : x5_1 < (l0.length : Int) := of_decide_eq_true (by first | (with_reducible assumption) | assumption)
       obtain ⟨ad115, A115_0, c115_0, e115, hx115_0, hl115_0, hi115_0⟩ := at_L2 HR0.out x5_1 p115 q115
       cases e115
       have HR115_0 := Aside0.mk hi115_0
       have HC115_0 := Aside0.mk hl115_0
       clear hi115_0 hl115_0
       replace p115 := eq_true p115
       replace q115 := eq_true q115
       go_wp2_with (first | ((with_reducible refine gate_callee (f := 107) rfl ?_); refine goesL_ (some 23) rfl rfl Tryd.func107 (by kernel_rfl) rfl #[.slice A115_0 (rd_L2 l0 x5_1).length c115_0, .int .i64 x1_1] rfl (by (try simp only [List.map_toArray, List.map_cons, List.map_nil]); first | done | rfl | (simp only [List.length_drop, List.length_take]; rfl)) ?_; (with_reducible refine (laws_szInt64S.calls _ _ (rd_L2 l0 x5_1) x1_1 t116 _ ?side1 ?side2 A6.out).mono ?_); (case side1 => repeat (first | exact HR115_0.out | (with_reducible refine Kd.C_alloc ?_ _) | (with_reducible refine Kd.C_drewN ?_ _) | (with_reducible refine Kd.C_drew ?_))); (case side2 => exact HC115_0.out); rintro e w' ⟨rfl, ⟨nd, rfl⟩⟩; refine ⟨_, rfl, ?_⟩))
       go_roundg k1
       case measure => have := HK1.out; omega
       case rel => exact ⟨(t116), (wrap64 (x5_1 + 1)), (by first | rfl | (simp; done) | (simp [*]; done) | (simp [wrap64]; done)), (by first | rfl | (simp; done) | (simp [*]; done) | (simp [wrap64]; done)), H', ⟨by have := HK1.out; omega⟩, by repeat (first | exact Drawn0.refl _ | apply Drawn0.step)⟩
     ·rw [if_neg c5] at H
      exact absurd H (by simp)
    ·rw [if_neg c4] at H
     have c4b0 : decide (x5_1 < (l0.length : Int)) = false := decide_eq_false c4
     clear c4
     obtain rfl := Option.some.inj H
     simp only [Option.some.injEq, Prod.mk.injEq] at H
     obtain ⟨rfl⟩ := H
     go_wp2
     go_ret
     exact ⟨by first | rfl | (simp; done) | (simp [*]; done) | (simp [wrap64]; done), by repeat (first | exact Drawn0.refl _ | apply Drawn0.step)⟩
/-! ### laws_szRelation: function 12 -/
def laws_szRelation.f (k : Nat) (a0_0 : Int) (a0_1 : Int) (l0_2 : List Bool) (l0_3 : List (List Int)) (a1 : Int) : Option (Int) := (laws_szBoolS.f l0_2 a1).bind fun t118 => (if t118 < 0 then (some (-1)) else ((laws_szInt64SS.f k l0_3 t118).bind fun t119 => (if t119 < 0 then (some (-1)) else (some t119))))
theorem laws_szRelation.mono : ∀ a0 a1 a2 a3 a4 k, LeO (laws_szRelation.f k a0 a1 a2 a3 a4) (laws_szRelation.f (k + 1) a0 a1 a2 a3 a4) := by
 intro a0 a1 a2 a3 a4 k
 unfold laws_szRelation.f
 repeat' first
   | (with_reducible exact laws_szInt64SS.mono _ _ _)
   | (with_reducible exact LeO.refl _)
   | (with_reducible exact LeO.none _)
   | (with_reducible refine LeO.ite ?_ ?_)
   | (with_reducible refine LeO.bind ?_ (fun _ => ?_))
   | exact laws_szInt64SS.mono _ _ _
   | exact LeO.none _
   | refine LeO.ite ?_ ?_
   | refine LeO.bind ?_ (fun _ => ?_)
set_option maxHeartbeats 8000000 in
set_option maxRecDepth 100000 in
theorem laws_szRelation.calls (k : Nat) (a0_0 : Int) (a0_1 : Int) (A0_2 : Option Addr) (c0_2 : Nat) (l0_2 : List Bool) (A0_3 : Option Addr) (c0_3 : Nat) (l0_3 : List (List Int)) (a1 : Int) (r : Int) (w : World) (hr0_2 : Kd.C Kd.bool w A0_2 l0_2.length l0_2) (hc0_2 : l0_2.length ≤ c0_2) (hr0_3 : Kd.C (Kd.slice 2 (Kd.int .i64)) w A0_3 l0_3.length l0_3) (hc0_3 : l0_3.length ≤ c0_3) (h : laws_szRelation.f k a0_0 a0_1 l0_2 l0_3 a1 = some r) :
  Calls Tryd.prog 12 #[.agg #[.int .i64 a0_0, .int .i64 a0_1, .slice A0_2 l0_2.length c0_2, .slice A0_3 l0_3.length c0_3], .int .i64 a1] w fun e w' => e = .returned (.int .i64 r) ∧ Below w.heap.size w w' := by
 have hu25 := Tryd.underlying25
 have HR0_2 := Aside0.mk hr0_2
 have HC0_2 := Aside0.mk hc0_2
 clear hr0_2 hc0_2
 have HR0_3 := Aside0.mk hr0_3
 have HC0_3 := Aside0.mk hc0_3
 clear hr0_3 hc0_3
 have HB := Aside0.mk (Below.refl w.heap.size w)
 have H : ((laws_szBoolS.f l0_2 a1).bind fun t118 => (if t118 < 0 then (some (-1)) else ((laws_szInt64SS.f k l0_3 t118).bind fun t119 => (if t119 < 0 then (some (-1)) else (some t119))))) = some r := h
 clear h
 replace H := Option.bind_eq_some_iff.mp H
 obtain ⟨t118, A30, H⟩ := H
 replace H : (if t118 < 0 then (some (-1)) else ((laws_szInt64SS.f k l0_3 t118).bind fun t119 => (if t119 < 0 then (some (-1)) else (some t119)))) = some r := H
 have A3 := Aside0.mk A30
 clear A30
 by_cases c4 : t118 < 0
 ·rw [if_pos c4] at H
  have c4b0 : decide (t118 < 0) = true := decide_eq_true c4
  clear c4
  obtain rfl := Option.some.inj H
  simp only [Option.some.injEq, Prod.mk.injEq] at H
  obtain ⟨rfl⟩ := H
  go_enter Tryd.func12, Tryd.ntmps12
  go_wp2_with (first | ((with_reducible refine gate_dst (N := 2) rfl ?_); refine box_event ?hg (N := 2) ?hd (cs := #[.int .i64 a0_0, .int .i64 a0_1, .slice A0_2 l0_2.length c0_2, .slice A0_3 l0_3.length c0_3]) (t := 25) ?hr ?_; (case hd => rfl); (case hg => rfl); (case hr => first | (go_simp; done) | (go_simp; rfl)); intro gb117 hg w5 hbox hb; have n0_ := Aside0.mk (below_step (by repeat (first | (with_reducible first | exact HB.out | apply below_alloc | apply pw_below_drewN | apply below_drew1) | exact HB.out)) hb); have n1_ := Aside0.mk (hbox); have n2_ := Aside0.mk ((by rw [hg]; exact (below_size (by repeat (first | (with_reducible first | exact HB.out | apply below_alloc | apply pw_below_drewN | apply below_drew1) | exact HB.out))) : w.heap.size ≤ gb117)); have n3_ := Aside0.mk ((by rw [hg]; exact (below_size (by repeat (first | (with_reducible first | exact HB.out | apply below_alloc | apply pw_below_drewN | apply below_drew1) | exact HB.out))) : w.heap.size ≤ gb117)); clear HB; have HB := n0_; have BK117 := n1_; have GW117 := n2_; have GE117 := n3_; clear n0_ n1_ n2_ n3_; clear hb hbox hg; have hcz6_0 : w5.cell? ⟨gb117, 0, none⟩ = some (.int .i64 a0_0) := (blk_cell BK117.out 0).trans rfl; have hcz6_1 : w5.cell? ⟨gb117, 1, none⟩ = some (.int .i64 a0_1) := (blk_cell BK117.out 1).trans rfl; have hcz6_2 : w5.cell? ⟨gb117, 2, none⟩ = some (.slice A0_2 l0_2.length c0_2) := (blk_cell BK117.out 2).trans rfl; have hcz6_3 : w5.cell? ⟨gb117, 3, none⟩ = some (.slice A0_3 l0_3.length c0_3) := (blk_cell BK117.out 3).trans rfl; have hfz6_0 := blk_frozen BK117.out 0; have hfz6_1 := blk_frozen BK117.out 1; have hfz6_2 := blk_frozen BK117.out 2; have hfz6_3 := blk_frozen BK117.out 3) | ((with_reducible refine gate_callee (f := 45) rfl ?_); refine goesL_ (some 8) rfl rfl Tryd.func45 (by kernel_rfl) rfl #[.slice A0_2 l0_2.length c0_2, .int .i64 a1] rfl (by (try simp only [List.map_toArray, List.map_cons, List.map_nil]); first | done | rfl | (simp only [List.length_drop, List.length_take]; rfl)) ?_; (with_reducible refine (laws_szBoolS.calls _ _ l0_2 a1 t118 _ ?side1 ?side2 A3.out).mono ?_); (case side1 => repeat (first | exact (Kd.C_below HR0_2.out HB.out) | (with_reducible refine Kd.C_alloc ?_ _) | (with_reducible refine Kd.C_drewN ?_ _) | (with_reducible refine Kd.C_drew ?_))); (case side2 => exact HC0_2.out); rintro e w' ⟨rfl, ⟨nd, rfl⟩⟩; refine ⟨_, rfl, ?_⟩))
  go_ret
  exact ⟨by first | rfl | (simp [errW_none, errW_some] <;> rfl) | (simp [*, errW_none, errW_some] <;> rfl), by repeat (first | (with_reducible first | exact HB.out | apply below_alloc | apply pw_below_drewN | apply below_drew1 | refine below_set ?_ GE117.out) | exact HB.out)⟩
 ·rw [if_neg c4] at H
  have c4b0 : decide (t118 < 0) = false := decide_eq_false c4
  clear c4
  replace H := Option.bind_eq_some_iff.mp H
  obtain ⟨t119, A70, H⟩ := H
  replace H : (if t119 < 0 then (some (-1)) else (some t119)) = some r := H
  have A7 := Aside0.mk A70
  clear A70
  by_cases c8 : t119 < 0
  ·rw [if_pos c8] at H
   have c8b0 : decide (t119 < 0) = true := decide_eq_true c8
   clear c8
   obtain rfl := Option.some.inj H
   simp only [Option.some.injEq, Prod.mk.injEq] at H
   obtain ⟨rfl⟩ := H
   go_enter Tryd.func12, Tryd.ntmps12
   go_wp2_with (first | ((with_reducible refine gate_dst (N := 2) rfl ?_); refine box_event ?hg (N := 2) ?hd (cs := #[.int .i64 a0_0, .int .i64 a0_1, .slice A0_2 l0_2.length c0_2, .slice A0_3 l0_3.length c0_3]) (t := 25) ?hr ?_; (case hd => rfl); (case hg => rfl); (case hr => first | (go_simp; done) | (go_simp; rfl)); intro gb117 hg w9 hbox hb; have n0_ := Aside0.mk (below_step (by repeat (first | (with_reducible first | exact HB.out | apply below_alloc | apply pw_below_drewN | apply below_drew1) | exact HB.out)) hb); have n1_ := Aside0.mk (hbox); have n2_ := Aside0.mk ((by rw [hg]; exact (below_size (by repeat (first | (with_reducible first | exact HB.out | apply below_alloc | apply pw_below_drewN | apply below_drew1) | exact HB.out))) : w.heap.size ≤ gb117)); have n3_ := Aside0.mk ((by rw [hg]; exact (below_size (by repeat (first | (with_reducible first | exact HB.out | apply below_alloc | apply pw_below_drewN | apply below_drew1) | exact HB.out))) : w.heap.size ≤ gb117)); clear HB; have HB := n0_; have BK117 := n1_; have GW117 := n2_; have GE117 := n3_; clear n0_ n1_ n2_ n3_; clear hb hbox hg; have hcz10_0 : w9.cell? ⟨gb117, 0, none⟩ = some (.int .i64 a0_0) := (blk_cell BK117.out 0).trans rfl; have hcz10_1 : w9.cell? ⟨gb117, 1, none⟩ = some (.int .i64 a0_1) := (blk_cell BK117.out 1).trans rfl; have hcz10_2 : w9.cell? ⟨gb117, 2, none⟩ = some (.slice A0_2 l0_2.length c0_2) := (blk_cell BK117.out 2).trans rfl; have hcz10_3 : w9.cell? ⟨gb117, 3, none⟩ = some (.slice A0_3 l0_3.length c0_3) := (blk_cell BK117.out 3).trans rfl; have hfz10_0 := blk_frozen BK117.out 0; have hfz10_1 := blk_frozen BK117.out 1; have hfz10_2 := blk_frozen BK117.out 2; have hfz10_3 := blk_frozen BK117.out 3) | ((with_reducible refine gate_callee (f := 45) rfl ?_); refine goesL_ (some 8) rfl rfl Tryd.func45 (by kernel_rfl) rfl #[.slice A0_2 l0_2.length c0_2, .int .i64 a1] rfl (by (try simp only [List.map_toArray, List.map_cons, List.map_nil]); first | done | rfl | (simp only [List.length_drop, List.length_take]; rfl)) ?_; (with_reducible refine (laws_szBoolS.calls _ _ l0_2 a1 t118 _ ?side1 ?side2 A3.out).mono ?_); (case side1 => repeat (first | exact (Kd.C_below HR0_2.out HB.out) | (with_reducible refine Kd.C_alloc ?_ _) | (with_reducible refine Kd.C_drewN ?_ _) | (with_reducible refine Kd.C_drew ?_))); (case side2 => exact HC0_2.out); rintro e w' ⟨rfl, ⟨nd, rfl⟩⟩; refine ⟨_, rfl, ?_⟩) | ((with_reducible refine gate_callee (f := 46) rfl ?_); refine goesL_ (some 14) rfl rfl Tryd.func46 (by kernel_rfl) rfl #[.slice A0_3 l0_3.length c0_3, .int .i64 t118] rfl (by (try simp only [List.map_toArray, List.map_cons, List.map_nil]); first | done | rfl | (simp only [List.length_drop, List.length_take]; rfl)) ?_; (with_reducible refine (laws_szInt64SS.calls k _ _ l0_3 t118 t119 _ ?side1 ?side2 A7.out).mono ?_); (case side1 => repeat (first | exact (Kd.C_below HR0_3.out (by repeat (first | (with_reducible first | exact HB.out | apply below_alloc | apply pw_below_drewN | apply below_drew1 | refine below_set ?_ GE117.out) | exact HB.out))) | (with_reducible refine Kd.C_alloc ?_ _) | (with_reducible refine Kd.C_drewN ?_ _) | (with_reducible refine Kd.C_drew ?_))); (case side2 => exact HC0_3.out); rintro e w' ⟨rfl, ⟨nd, rfl⟩⟩; refine ⟨_, rfl, ?_⟩))
   go_ret
   exact ⟨by first | rfl | (simp [errW_none, errW_some] <;> rfl) | (simp [*, errW_none, errW_some] <;> rfl), by repeat (first | (with_reducible first | exact HB.out | apply below_alloc | apply pw_below_drewN | apply below_drew1 | refine below_set ?_ GE117.out) | exact HB.out)⟩
  ·rw [if_neg c8] at H
   have c8b0 : decide (t119 < 0) = false := decide_eq_false c8
   clear c8
   obtain rfl := Option.some.inj H
   simp only [Option.some.injEq, Prod.mk.injEq] at H
   obtain ⟨rfl⟩ := H
   go_enter Tryd.func12, Tryd.ntmps12
   go_wp2_with (first | ((with_reducible refine gate_dst (N := 2) rfl ?_); refine box_event ?hg (N := 2) ?hd (cs := #[.int .i64 a0_0, .int .i64 a0_1, .slice A0_2 l0_2.length c0_2, .slice A0_3 l0_3.length c0_3]) (t := 25) ?hr ?_; (case hd => rfl); (case hg => rfl); (case hr => first | (go_simp; done) | (go_simp; rfl)); intro gb117 hg w11 hbox hb; have n0_ := Aside0.mk (below_step (by repeat (first | (with_reducible first | exact HB.out | apply below_alloc | apply pw_below_drewN | apply below_drew1) | exact HB.out)) hb); have n1_ := Aside0.mk (hbox); have n2_ := Aside0.mk ((by rw [hg]; exact (below_size (by repeat (first | (with_reducible first | exact HB.out | apply below_alloc | apply pw_below_drewN | apply below_drew1) | exact HB.out))) : w.heap.size ≤ gb117)); have n3_ := Aside0.mk ((by rw [hg]; exact (below_size (by repeat (first | (with_reducible first | exact HB.out | apply below_alloc | apply pw_below_drewN | apply below_drew1) | exact HB.out))) : w.heap.size ≤ gb117)); clear HB; have HB := n0_; have BK117 := n1_; have GW117 := n2_; have GE117 := n3_; clear n0_ n1_ n2_ n3_; clear hb hbox hg; have hcz12_0 : w11.cell? ⟨gb117, 0, none⟩ = some (.int .i64 a0_0) := (blk_cell BK117.out 0).trans rfl; have hcz12_1 : w11.cell? ⟨gb117, 1, none⟩ = some (.int .i64 a0_1) := (blk_cell BK117.out 1).trans rfl; have hcz12_2 : w11.cell? ⟨gb117, 2, none⟩ = some (.slice A0_2 l0_2.length c0_2) := (blk_cell BK117.out 2).trans rfl; have hcz12_3 : w11.cell? ⟨gb117, 3, none⟩ = some (.slice A0_3 l0_3.length c0_3) := (blk_cell BK117.out 3).trans rfl; have hfz12_0 := blk_frozen BK117.out 0; have hfz12_1 := blk_frozen BK117.out 1; have hfz12_2 := blk_frozen BK117.out 2; have hfz12_3 := blk_frozen BK117.out 3) | ((with_reducible refine gate_callee (f := 45) rfl ?_); refine goesL_ (some 8) rfl rfl Tryd.func45 (by kernel_rfl) rfl #[.slice A0_2 l0_2.length c0_2, .int .i64 a1] rfl (by (try simp only [List.map_toArray, List.map_cons, List.map_nil]); first | done | rfl | (simp only [List.length_drop, List.length_take]; rfl)) ?_; (with_reducible refine (laws_szBoolS.calls _ _ l0_2 a1 t118 _ ?side1 ?side2 A3.out).mono ?_); (case side1 => repeat (first | exact (Kd.C_below HR0_2.out HB.out) | (with_reducible refine Kd.C_alloc ?_ _) | (with_reducible refine Kd.C_drewN ?_ _) | (with_reducible refine Kd.C_drew ?_))); (case side2 => exact HC0_2.out); rintro e w' ⟨rfl, ⟨nd, rfl⟩⟩; refine ⟨_, rfl, ?_⟩) | ((with_reducible refine gate_callee (f := 46) rfl ?_); refine goesL_ (some 14) rfl rfl Tryd.func46 (by kernel_rfl) rfl #[.slice A0_3 l0_3.length c0_3, .int .i64 t118] rfl (by (try simp only [List.map_toArray, List.map_cons, List.map_nil]); first | done | rfl | (simp only [List.length_drop, List.length_take]; rfl)) ?_; (with_reducible refine (laws_szInt64SS.calls k _ _ l0_3 t118 t119 _ ?side1 ?side2 A7.out).mono ?_); (case side1 => repeat (first | exact (Kd.C_below HR0_3.out (by repeat (first | (with_reducible first | exact HB.out | apply below_alloc | apply pw_below_drewN | apply below_drew1 | refine below_set ?_ GE117.out) | exact HB.out))) | (with_reducible refine Kd.C_alloc ?_ _) | (with_reducible refine Kd.C_drewN ?_ _) | (with_reducible refine Kd.C_drew ?_))); (case side2 => exact HC0_3.out); rintro e w' ⟨rfl, ⟨nd, rfl⟩⟩; refine ⟨_, rfl, ?_⟩))
   go_ret
   exact ⟨by first | rfl | (simp [errW_none, errW_some] <;> rfl) | (simp [*, errW_none, errW_some] <;> rfl), by repeat (first | (with_reducible first | exact HB.out | apply below_alloc | apply pw_below_drewN | apply below_drew1 | refine below_set ?_ GE117.out) | exact HB.out)⟩
/-! ### laws_eqBoolS: function 55 -/
def laws_eqBoolS.l0 : Nat → List Bool → List Bool → Int → Option (Bool)
 | 0, _, _, _ => none
 | k + 1, x0, x1, x5 => if x5 < (x0.length : Int) then (if 0 ≤ x5 then (if x5 < (x1.length : Int) then (if ((rdOf false x0 x5) != (rdOf false x1 x5)) = true then (some false) else (laws_eqBoolS.l0 k x0 x1 (wrap64 (x5 + 1)))) else (none)) else (none)) else (some true)
def laws_eqBoolS.f (k : Nat) (l0 : List Bool) (l1 : List Bool) : Option (Bool) := if (l0.length : Int) = (l1.length : Int) then (laws_eqBoolS.l0 k l0 l1 0) else (some false)
theorem laws_eqBoolS.mono_l : ∀ k, (∀ y0 y1 y2, LeO (laws_eqBoolS.l0 k y0 y1 y2) (laws_eqBoolS.l0 (k + 1) y0 y1 y2))
 | 0 => fun _ _ _ r h => by simp [laws_eqBoolS.l0] at h
 | k + 1 => by
  have ih0 := laws_eqBoolS.mono_l k
  ·intro y0 y1 y2
   unfold laws_eqBoolS.l0
   repeat' first
   | (with_reducible exact ih0 _ _ _)
   | (with_reducible exact LeO.refl _)
   | (with_reducible exact LeO.none _)
   | (with_reducible refine LeO.ite ?_ ?_)
   | (with_reducible refine LeO.bind ?_ (fun _ => ?_))
   | exact ih0 _ _ _
   | exact LeO.none _
   | refine LeO.ite ?_ ?_
   | refine LeO.bind ?_ (fun _ => ?_)
theorem laws_eqBoolS.mono : ∀ a0 a1 k, LeO (laws_eqBoolS.f k a0 a1) (laws_eqBoolS.f (k + 1) a0 a1) := by
 intro a0 a1 k
 have ih0 := laws_eqBoolS.mono_l k
 unfold laws_eqBoolS.f
 repeat' first
   | (with_reducible exact ih0 _ _ _)
   | (with_reducible exact LeO.refl _)
   | (with_reducible exact LeO.none _)
   | (with_reducible refine LeO.ite ?_ ?_)
   | (with_reducible refine LeO.bind ?_ (fun _ => ?_))
   | exact ih0 _ _ _
   | exact LeO.none _
   | refine LeO.ite ?_ ?_
   | refine LeO.bind ?_ (fun _ => ?_)
set_option maxHeartbeats 8000000 in
set_option maxRecDepth 100000 in
theorem laws_eqBoolS.calls (k : Nat) (A0 : Option Addr) (c0 : Nat) (l0 : List Bool) (A1 : Option Addr) (c1 : Nat) (l1 : List Bool) (r : Bool) (w : World) (hr0 : Kd.C Kd.bool w A0 l0.length l0) (hc0 : l0.length ≤ c0) (hr1 : Kd.C Kd.bool w A1 l1.length l1) (hc1 : l1.length ≤ c1) (h : laws_eqBoolS.f k l0 l1 = some r) :
  Calls Tryd.prog 55 #[.slice A0 l0.length c0, .slice A1 l1.length c1] w fun e w' => e = .returned (.bool r) ∧ Drawn0 w w' := by
 have HR0 := Aside0.mk hr0
 have HC0 := Aside0.mk hc0
 clear hr0 hc0
 have HR1 := Aside0.mk hr1
 have HC1 := Aside0.mk hc1
 clear hr1 hc1
 have H : (if (l0.length : Int) = (l1.length : Int) then (laws_eqBoolS.l0 k l0 l1 0) else (some false)) = some r := h
 clear h
 by_cases c3 : (l0.length : Int) = (l1.length : Int)
 ·rw [if_pos c3] at H
  have c3b0 : ((l0.length : Int) == (l1.length : Int)) = true := beq_iff_eq.mpr c3
  have c3b1 : ((l0.length : Int) != (l1.length : Int)) = false := bne_eq_false_iff_eq.mpr c3
  have c3b2 : (l0.length == l1.length) = true := by first | simpa using c3 | (simp at c3 ⊢; omega)
  clear c3
  have H' := Aside0.mk H
  clear H
  go_enter Tryd.func55, Tryd.ntmps55
  go_wp2
  repeat (go_quiet (fail); try go_wp2)
  go_loopg [5] k (fun kq v5 w' => ∃ (x5_1 : Int), v5 = .int .i64 x5_1 ∧ Aside0 (laws_eqBoolS.l0 kq l0 l1 x5_1 = some r) ∧ Aside0 (kq ≤ k) ∧ Drawn0 w w')
  case atStart => exact ⟨(0), (by first | rfl | (simp; done) | (simp [*]; done) | (simp [wrap64]; done)), H', ⟨Nat.le_refl _⟩, by repeat (first | exact Drawn0.refl _ | apply Drawn0.step)⟩
  case round =>
   clear H'
   try clear c1
   try clear p2
   try clear c3
   try clear c3b0
   try clear c3b1
   try clear c3b2
   obtain ⟨x5_1, rfl, HA, HK1, ⟨m1, rfl⟩⟩ := hrel
   cases gk with
   | zero => exact absurd HA.out (by simp [laws_eqBoolS.l0])
   | succ k1 =>
    have H := HA.out
    clear HA
    simp only [laws_eqBoolS.l0] at H
    by_cases c4 : x5_1 < (l0.length : Int)
    ·rw [if_pos c4] at H
     have c4b0 : decide (x5_1 < (l0.length : Int)) = true := decide_eq_true c4
     clear c4
     by_cases c5 : 0 ≤ x5_1
     ·rw [if_pos c5] at H
      have c5b0 : decide (0 ≤ x5_1) = true := decide_eq_true c5
      clear c5
      by_cases c6 : x5_1 < (l1.length : Int)
      ·rw [if_pos c6] at H
       have c6b0 : decide (x5_1 < (l1.length : Int)) = true := decide_eq_true c6
       clear c6
       by_cases c7 : ((rdOf false l0 x5_1) != (rdOf false l1 x5_1)) = true
       ·rw [if_pos c7] at H
        have c7b0 : ((rdOf false l0 x5_1) != (rdOf false l1 x5_1)) = true := c7
        (try (have c7b1 : decide ((rdOf false l0 x5_1) = (rdOf false l1 x5_1)) = false := by simpa using c7))
        (try (have c7b2 : ((rdOf false l0 x5_1) == (rdOf false l1 x5_1)) = false := by simpa using c7))
        (try (have c7b3 : ¬ ((rdOf false l0 x5_1) = (rdOf false l1 x5_1)) := by simpa using c7))
        clear c7
        obtain rfl := Option.some.inj H
        simp only [Option.some.injEq, Prod.mk.injEq] at H
        obtain ⟨rfl⟩ := H
        have p120 : 0 ≤ (x5_1 : Int) := of_decide_eq_true (by first | (with_reducible assumption) | assumption)
        have q120 : x5_1 < (l0.length : Int) := of_decide_eq_true (by first | (with_reducible assumption) | assumption)
        obtain ⟨ad120, e120, hx120_0⟩ := Kd.at_bool HR0.out x5_1 p120 q120
        cases e120
        replace p120 := eq_true p120
        replace q120 := eq_true q120
        have p121 : 0 ≤ (x5_1 : Int) := of_decide_eq_true (by first | (with_reducible assumption) | assumption)
        have q121 : x5_1 < (l1.length : Int) := of_decide_eq_true (by first | (with_reducible assumption) | assumption)
        obtain ⟨ad121, e121, hx121_0⟩ := Kd.at_bool HR1.out x5_1 p121 q121
        cases e121
        replace p121 := eq_true p121
        replace q121 := eq_true q121
        go_wp2
        repeat (go_quiet (fail); try go_wp2)
        go_ret
        exact ⟨by first | rfl | (simp; done) | (simp [*]; done) | (simp [wrap64]; done), by repeat (first | exact Drawn0.refl _ | apply Drawn0.step)⟩
       ·rw [if_neg c7] at H
        have c7b0 : ((rdOf false l0 x5_1) != (rdOf false l1 x5_1)) = false := by simpa using c7
        (try (have c7b1 : decide ((rdOf false l0 x5_1) = (rdOf false l1 x5_1)) = true := by simpa using c7))
        (try (have c7b2 : ((rdOf false l0 x5_1) == (rdOf false l1 x5_1)) = true := by simpa using c7))
        clear c7
        have H' := Aside0.mk H
        clear H
        have p120 : 0 ≤ (x5_1 : Int) := of_decide_eq_true (by first | (with_reducible assumption) | assumption)
        have q120 : x5_1 < (l0.length : Int) := of_decide_eq_true (by first | (with_reducible assumption) | assumption)
        obtain ⟨ad120, e120, hx120_0⟩ := Kd.at_bool HR0.out x5_1 p120 q120
        cases e120
        replace p120 := eq_true p120
        replace q120 := eq_true q120
        have p121 : 0 ≤ (x5_1 : Int) := of_decide_eq_true (by first | (with_reducible assumption) | assumption)
        have q121 : x5_1 < (l1.length : Int) := of_decide_eq_true (by first | (with_reducible assumption) | assumption)
        obtain ⟨ad121, e121, hx121_0⟩ := Kd.at_bool HR1.out x5_1 p121 q121
        cases e121
        replace p121 := eq_true p121
        replace q121 := eq_true q121
        go_wp2
        repeat (go_quiet (fail); try go_wp2)
        go_roundg k1
        case measure => have := HK1.out; omega
        case rel => exact ⟨(wrap64 (x5_1 + 1)), (by first | rfl | (simp; done) | (simp [*]; done) | (simp [wrap64]; done)), H', ⟨by have := HK1.out; omega⟩, by repeat (first | exact Drawn0.refl _ | apply Drawn0.step)⟩
      ·rw [if_neg c6] at H
       exact absurd H (by simp)
     ·rw [if_neg c5] at H
      exact absurd H (by simp)
    ·rw [if_neg c4] at H
     have c4b0 : decide (x5_1 < (l0.length : Int)) = false := decide_eq_false c4
     clear c4
     obtain rfl := Option.some.inj H
     simp only [Option.some.injEq, Prod.mk.injEq] at H
     obtain ⟨rfl⟩ := H
     go_wp2
     repeat (go_quiet (fail); try go_wp2)
     go_ret
     exact ⟨by first | rfl | (simp; done) | (simp [*]; done) | (simp [wrap64]; done), by repeat (first | exact Drawn0.refl _ | apply Drawn0.step)⟩
 ·rw [if_neg c3] at H
  have c3b0 : ((l0.length : Int) == (l1.length : Int)) = false := beq_eq_false_iff_ne.mpr c3
  have c3b1 : ((l0.length : Int) != (l1.length : Int)) = true := bne_iff_ne.mpr c3
  have c3b2 : (l0.length == l1.length) = false := by first | simpa using c3 | (simp at c3 ⊢; omega)
  obtain rfl := Option.some.inj H
  simp only [Option.some.injEq, Prod.mk.injEq] at H
  obtain ⟨rfl⟩ := H
  go_enter Tryd.func55, Tryd.ntmps55
  go_wp2
  repeat (go_quiet (fail); try go_wp2)
  go_ret
  exact ⟨by first | rfl | (simp; done) | (simp [*]; done) | (simp [wrap64]; done), by repeat (first | exact Drawn0.refl _ | apply Drawn0.step)⟩
/-! ### laws_eqInt64S: function 117 -/
def laws_eqInt64S.l0 : Nat → List Int → List Int → Int → Option (Bool)
 | 0, _, _, _ => none
 | k + 1, x0, x1, x5 => if x5 < (x0.length : Int) then (if 0 ≤ x5 then (if x5 < (x1.length : Int) then (if (rd x0 x5) = (rd x1 x5) then (laws_eqInt64S.l0 k x0 x1 (wrap64 (x5 + 1))) else (some false)) else (none)) else (none)) else (some true)
def laws_eqInt64S.f (k : Nat) (l0 : List Int) (l1 : List Int) : Option (Bool) := if (l0.length : Int) = (l1.length : Int) then (laws_eqInt64S.l0 k l0 l1 0) else (some false)
theorem laws_eqInt64S.mono_l : ∀ k, (∀ y0 y1 y2, LeO (laws_eqInt64S.l0 k y0 y1 y2) (laws_eqInt64S.l0 (k + 1) y0 y1 y2))
 | 0 => fun _ _ _ r h => by simp [laws_eqInt64S.l0] at h
 | k + 1 => by
  have ih0 := laws_eqInt64S.mono_l k
  ·intro y0 y1 y2
   unfold laws_eqInt64S.l0
   repeat' first
   | (with_reducible exact ih0 _ _ _)
   | (with_reducible exact LeO.refl _)
   | (with_reducible exact LeO.none _)
   | (with_reducible refine LeO.ite ?_ ?_)
   | (with_reducible refine LeO.bind ?_ (fun _ => ?_))
   | exact ih0 _ _ _
   | exact LeO.none _
   | refine LeO.ite ?_ ?_
   | refine LeO.bind ?_ (fun _ => ?_)
theorem laws_eqInt64S.mono : ∀ a0 a1 k, LeO (laws_eqInt64S.f k a0 a1) (laws_eqInt64S.f (k + 1) a0 a1) := by
 intro a0 a1 k
 have ih0 := laws_eqInt64S.mono_l k
 unfold laws_eqInt64S.f
 repeat' first
   | (with_reducible exact ih0 _ _ _)
   | (with_reducible exact LeO.refl _)
   | (with_reducible exact LeO.none _)
   | (with_reducible refine LeO.ite ?_ ?_)
   | (with_reducible refine LeO.bind ?_ (fun _ => ?_))
   | exact ih0 _ _ _
   | exact LeO.none _
   | refine LeO.ite ?_ ?_
   | refine LeO.bind ?_ (fun _ => ?_)
set_option maxHeartbeats 8000000 in
set_option maxRecDepth 100000 in
theorem laws_eqInt64S.calls (k : Nat) (A0 : Option Addr) (c0 : Nat) (l0 : List Int) (A1 : Option Addr) (c1 : Nat) (l1 : List Int) (r : Bool) (w : World) (hr0 : Kd.C (Kd.int .i64) w A0 l0.length l0) (hc0 : l0.length ≤ c0) (hr1 : Kd.C (Kd.int .i64) w A1 l1.length l1) (hc1 : l1.length ≤ c1) (h : laws_eqInt64S.f k l0 l1 = some r) :
  Calls Tryd.prog 117 #[.slice A0 l0.length c0, .slice A1 l1.length c1] w fun e w' => e = .returned (.bool r) ∧ Drawn0 w w' := by
 have HR0 := Aside0.mk hr0
 have HC0 := Aside0.mk hc0
 clear hr0 hc0
 have HR1 := Aside0.mk hr1
 have HC1 := Aside0.mk hc1
 clear hr1 hc1
 have H : (if (l0.length : Int) = (l1.length : Int) then (laws_eqInt64S.l0 k l0 l1 0) else (some false)) = some r := h
 clear h
 by_cases c3 : (l0.length : Int) = (l1.length : Int)
 ·rw [if_pos c3] at H
  have c3b0 : ((l0.length : Int) == (l1.length : Int)) = true := beq_iff_eq.mpr c3
  have c3b1 : ((l0.length : Int) != (l1.length : Int)) = false := bne_eq_false_iff_eq.mpr c3
  have c3b2 : (l0.length == l1.length) = true := by first | simpa using c3 | (simp at c3 ⊢; omega)
  clear c3
  have H' := Aside0.mk H
  clear H
  go_enter Tryd.func117, Tryd.ntmps117
  go_wp2
  repeat (go_quiet (fail); try go_wp2)
  go_loopg [5] k (fun kq v5 w' => ∃ (x5_1 : Int), v5 = .int .i64 x5_1 ∧ Aside0 (laws_eqInt64S.l0 kq l0 l1 x5_1 = some r) ∧ Aside0 (kq ≤ k) ∧ Drawn0 w w')
  case atStart => exact ⟨(0), (by first | rfl | (simp; done) | (simp [*]; done) | (simp [wrap64]; done)), H', ⟨Nat.le_refl _⟩, by repeat (first | exact Drawn0.refl _ | apply Drawn0.step)⟩
  case round =>
   clear H'
   try clear c1
   try clear p2
   try clear c3
   try clear c3b0
   try clear c3b1
   try clear c3b2
   obtain ⟨x5_1, rfl, HA, HK1, ⟨m1, rfl⟩⟩ := hrel
   cases gk with
   | zero => exact absurd HA.out (by simp [laws_eqInt64S.l0])
   | succ k1 =>
    have H := HA.out
    clear HA
    simp only [laws_eqInt64S.l0] at H
    by_cases c4 : x5_1 < (l0.length : Int)
    ·rw [if_pos c4] at H
     have c4b0 : decide (x5_1 < (l0.length : Int)) = true := decide_eq_true c4
     clear c4
     by_cases c5 : 0 ≤ x5_1
     ·rw [if_pos c5] at H
      have c5b0 : decide (0 ≤ x5_1) = true := decide_eq_true c5
      clear c5
      by_cases c6 : x5_1 < (l1.length : Int)
      ·rw [if_pos c6] at H
       have c6b0 : decide (x5_1 < (l1.length : Int)) = true := decide_eq_true c6
       clear c6
       by_cases c7 : (rd l0 x5_1) = (rd l1 x5_1)
       ·rw [if_pos c7] at H
        have c7b0 : ((rd l0 x5_1) == (rd l1 x5_1)) = true := beq_iff_eq.mpr c7
        have c7b1 : ((rd l0 x5_1) != (rd l1 x5_1)) = false := bne_eq_false_iff_eq.mpr c7
        clear c7
        have H' := Aside0.mk H
        clear H
        have p122 : 0 ≤ (x5_1 : Int) := of_decide_eq_true (by first | (with_reducible assumption) | assumption)
        have q122 : x5_1 < (l0.length : Int) := of_decide_eq_true (by first | (with_reducible assumption) | assumption)
        obtain ⟨ad122, e122, hx122_0⟩ := Kd.at_int HR0.out x5_1 p122 q122
        cases e122
        replace p122 := eq_true p122
        replace q122 := eq_true q122
        have p123 : 0 ≤ (x5_1 : Int) := of_decide_eq_true (by first | (with_reducible assumption) | assumption)
        have q123 : x5_1 < (l1.length : Int) := of_decide_eq_true (by first | (with_reducible assumption) | assumption)
        obtain ⟨ad123, e123, hx123_0⟩ := Kd.at_int HR1.out x5_1 p123 q123
        cases e123
        replace p123 := eq_true p123
        replace q123 := eq_true q123
        go_wp2
        repeat (go_quiet (fail); try go_wp2)
        go_roundg k1
        case measure => have := HK1.out; omega
        case rel => exact ⟨(wrap64 (x5_1 + 1)), (by first | rfl | (simp; done) | (simp [*]; done) | (simp [wrap64]; done)), H', ⟨by have := HK1.out; omega⟩, by repeat (first | exact Drawn0.refl _ | apply Drawn0.step)⟩
       ·rw [if_neg c7] at H
        have c7b0 : ((rd l0 x5_1) == (rd l1 x5_1)) = false := beq_eq_false_iff_ne.mpr c7
        have c7b1 : ((rd l0 x5_1) != (rd l1 x5_1)) = true := bne_iff_ne.mpr c7
        obtain rfl := Option.some.inj H
        simp only [Option.some.injEq, Prod.mk.injEq] at H
        obtain ⟨rfl⟩ := H
        have p122 : 0 ≤ (x5_1 : Int) := of_decide_eq_true (by first | (with_reducible assumption) | assumption)
        have q122 : x5_1 < (l0.length : Int) := of_decide_eq_true (by first | (with_reducible assumption) | assumption)
        obtain ⟨ad122, e122, hx122_0⟩ := Kd.at_int HR0.out x5_1 p122 q122
        cases e122
        replace p122 := eq_true p122
        replace q122 := eq_true q122
        have p123 : 0 ≤ (x5_1 : Int) := of_decide_eq_true (by first | (with_reducible assumption) | assumption)
        have q123 : x5_1 < (l1.length : Int) := of_decide_eq_true (by first | (with_reducible assumption) | assumption)
        obtain ⟨ad123, e123, hx123_0⟩ := Kd.at_int HR1.out x5_1 p123 q123
        cases e123
        replace p123 := eq_true p123
        replace q123 := eq_true q123
        go_wp2
        repeat (go_quiet (fail); try go_wp2)
        go_ret
        exact ⟨by first | rfl | (simp; done) | (simp [*]; done) | (simp [wrap64]; done), by repeat (first | exact Drawn0.refl _ | apply Drawn0.step)⟩
      ·rw [if_neg c6] at H
       exact absurd H (by simp)
     ·rw [if_neg c5] at H
      exact absurd H (by simp)
    ·rw [if_neg c4] at H
     have c4b0 : decide (x5_1 < (l0.length : Int)) = false := decide_eq_false c4
     clear c4
     obtain rfl := Option.some.inj H
     simp only [Option.some.injEq, Prod.mk.injEq] at H
     obtain ⟨rfl⟩ := H
     go_wp2
     repeat (go_quiet (fail); try go_wp2)
     go_ret
     exact ⟨by first | rfl | (simp; done) | (simp [*]; done) | (simp [wrap64]; done), by repeat (first | exact Drawn0.refl _ | apply Drawn0.step)⟩
 ·rw [if_neg c3] at H
  have c3b0 : ((l0.length : Int) == (l1.length : Int)) = false := beq_eq_false_iff_ne.mpr c3
  have c3b1 : ((l0.length : Int) != (l1.length : Int)) = true := bne_iff_ne.mpr c3
  have c3b2 : (l0.length == l1.length) = false := by first | simpa using c3 | (simp at c3 ⊢; omega)
  obtain rfl := Option.some.inj H
  simp only [Option.some.injEq, Prod.mk.injEq] at H
  obtain ⟨rfl⟩ := H
  go_enter Tryd.func117, Tryd.ntmps117
  go_wp2
  repeat (go_quiet (fail); try go_wp2)
  go_ret
  exact ⟨by first | rfl | (simp; done) | (simp [*]; done) | (simp [wrap64]; done), by repeat (first | exact Drawn0.refl _ | apply Drawn0.step)⟩
end Go.Proofs.YtbamnonamdpooaaDoor.PT3
namespace Go.Proofs.YtbamnonamdpooaaDoor.PT3
open Go.RowKit Go.Proofs.YtbamnonamdpooaaDoorW.PrintWords Go.Proofs.YtbamnonamdpooaaDoorW.PrintLast Go.Proofs.YtbamnonamdpooaaDoorW.PrintMore PL1 Rw
attribute [local go_sem] max2_int min2_int max_two min_two max_three min_three max_four min_four   -- for this text's walks alone
set_option linter.unusedVariables false
set_option linter.unusedSimpArgs false
/-! ### laws_eqInt64SS: function 56 -/
def laws_eqInt64SS.l0 : Nat → List (List Int) → List (List Int) → Int → Option (Bool)
 | 0, _, _, _ => none
 | k + 1, x0, x1, x5 => if x5 < (x0.length : Int) then (if 0 ≤ x5 then (if x5 < (x1.length : Int) then ((laws_eqInt64S.f k (rd_L2 x0 x5) (rd_L2 x1 x5)).bind fun t126 => (if t126 = true then (laws_eqInt64SS.l0 k x0 x1 (wrap64 (x5 + 1))) else (some false))) else (none)) else (none)) else (some true)
def laws_eqInt64SS.f (k : Nat) (l0 : List (List Int)) (l1 : List (List Int)) : Option (Bool) := if (l0.length : Int) = (l1.length : Int) then (laws_eqInt64SS.l0 k l0 l1 0) else (some false)
theorem laws_eqInt64SS.mono_l : ∀ k, (∀ y0 y1 y2, LeO (laws_eqInt64SS.l0 k y0 y1 y2) (laws_eqInt64SS.l0 (k + 1) y0 y1 y2))
 | 0 => fun _ _ _ r h => by simp [laws_eqInt64SS.l0] at h
 | k + 1 => by
  have ih0 := laws_eqInt64SS.mono_l k
  ·intro y0 y1 y2
   unfold laws_eqInt64SS.l0
   repeat' first
   | (with_reducible exact ih0 _ _ _)
   | (with_reducible exact laws_eqInt64S.mono _ _ _)
   | (with_reducible exact LeO.refl _)
   | (with_reducible exact LeO.none _)
   | (with_reducible refine LeO.ite ?_ ?_)
   | (with_reducible refine LeO.bind ?_ (fun _ => ?_))
   | exact ih0 _ _ _
   | exact laws_eqInt64S.mono _ _ _
   | exact LeO.none _
   | refine LeO.ite ?_ ?_
   | refine LeO.bind ?_ (fun _ => ?_)
theorem laws_eqInt64SS.mono : ∀ a0 a1 k, LeO (laws_eqInt64SS.f k a0 a1) (laws_eqInt64SS.f (k + 1) a0 a1) := by
 intro a0 a1 k
 have ih0 := laws_eqInt64SS.mono_l k
 unfold laws_eqInt64SS.f
 repeat' first
   | (with_reducible exact ih0 _ _ _)
   | (with_reducible exact laws_eqInt64S.mono _ _ _)
   | (with_reducible exact LeO.refl _)
   | (with_reducible exact LeO.none _)
   | (with_reducible refine LeO.ite ?_ ?_)
   | (with_reducible refine LeO.bind ?_ (fun _ => ?_))
   | exact ih0 _ _ _
   | exact laws_eqInt64S.mono _ _ _
   | exact LeO.none _
   | refine LeO.ite ?_ ?_
   | refine LeO.bind ?_ (fun _ => ?_)
set_option maxHeartbeats 8000000 in
set_option maxRecDepth 100000 in
theorem laws_eqInt64SS.calls (k : Nat) (A0 : Option Addr) (c0 : Nat) (l0 : List (List Int)) (A1 : Option Addr) (c1 : Nat) (l1 : List (List Int)) (r : Bool) (w : World) (hr0 : Kd.C (Kd.slice 2 (Kd.int .i64)) w A0 l0.length l0) (hc0 : l0.length ≤ c0) (hr1 : Kd.C (Kd.slice 2 (Kd.int .i64)) w A1 l1.length l1) (hc1 : l1.length ≤ c1) (h : laws_eqInt64SS.f k l0 l1 = some r) :
  Calls Tryd.prog 56 #[.slice A0 l0.length c0, .slice A1 l1.length c1] w fun e w' => e = .returned (.bool r) ∧ Drawn0 w w' := by
 have HR0 := Aside0.mk hr0
 have HC0 := Aside0.mk hc0
 clear hr0 hc0
 have HR1 := Aside0.mk hr1
 have HC1 := Aside0.mk hc1
 clear hr1 hc1
 have H : (if (l0.length : Int) = (l1.length : Int) then (laws_eqInt64SS.l0 k l0 l1 0) else (some false)) = some r := h
 clear h
 by_cases c3 : (l0.length : Int) = (l1.length : Int)
 ·rw [if_pos c3] at H
  have c3b0 : ((l0.length : Int) == (l1.length : Int)) = true := beq_iff_eq.mpr c3
  have c3b1 : ((l0.length : Int) != (l1.length : Int)) = false := bne_eq_false_iff_eq.mpr c3
  have c3b2 : (l0.length == l1.length) = true := by first | simpa using c3 | (simp at c3 ⊢; omega)
  clear c3
  have H' := Aside0.mk H
  clear H
  go_enter Tryd.func56, Tryd.ntmps56
  go_wp2
  repeat (go_quiet (fail); try go_wp2)
  go_loopg [5] k (fun kq v5 w' => ∃ (x5_1 : Int), v5 = .int .i64 x5_1 ∧ Aside0 (laws_eqInt64SS.l0 kq l0 l1 x5_1 = some r) ∧ Aside0 (kq ≤ k) ∧ Drawn0 w w')
  case atStart => exact ⟨(0), (by first | rfl | (simp; done) | (simp [*]; done) | (simp [wrap64]; done)), H', ⟨Nat.le_refl _⟩, by repeat (first | exact Drawn0.refl _ | apply Drawn0.step)⟩
  case round =>
   clear H'
   try clear c1
   try clear p2
   try clear c3
   try clear c3b0
   try clear c3b1
   try clear c3b2
   obtain ⟨x5_1, rfl, HA, HK1, ⟨m1, rfl⟩⟩ := hrel
   cases gk with
   | zero => exact absurd HA.out (by simp [laws_eqInt64SS.l0])
   | succ k1 =>
    have H := HA.out
    clear HA
    simp only [laws_eqInt64SS.l0] at H
    by_cases c4 : x5_1 < (l0.length : Int)
    ·rw [if_pos c4] at H
     have c4b0 : decide (x5_1 < (l0.length : Int)) = true := decide_eq_true c4
     clear c4
     by_cases c5 : 0 ≤ x5_1
     ·rw [if_pos c5] at H
      have c5b0 : decide (0 ≤ x5_1) = true := decide_eq_true c5
      clear c5
      by_cases c6 : x5_1 < (l1.length : Int)
      ·rw [if_pos c6] at H
       have c6b0 : decide (x5_1 < (l1.length : Int)) = true := decide_eq_true c6
       clear c6
       replace H := Option.bind_eq_some_iff.mp H
       obtain ⟨t126, A70, H⟩ := H
       replace H : (if t126 = true then (laws_eqInt64SS.l0 k1 l0 l1 (wrap64 (x5_1 + 1))) else (some false)) = some r := H
       have A7 := Aside0.mk A70
       clear A70
       by_cases c8 : t126 = true
       ·subst c8
        have H1 : (laws_eqInt64SS.l0 k1 l0 l1 (wrap64 (x5_1 + 1))) = some r := by rw [if_pos rfl] at H; exact H
        clear H
        have H := H1
        clear H1
        have H' := Aside0.mk H
        clear H
        have p124 : 0 ≤ (x5_1 : Int) := of_decide_eq_true (by first | (with_reducible assumption) | assumption)
        have q124 : x5_1 < (l0.length : Int) := of_decide_eq_true (by first | (with_reducible assumption) | assumption)
        obtain ⟨ad124, A124_0, c124_0, e124, hx124_0, hl124_0, hi124_0⟩ := at_L2 HR0.out x5_1 p124 q124
        cases e124
        have HR124_0 := Aside0.mk hi124_0
        have HC124_0 := Aside0.mk hl124_0
        clear hi124_0 hl124_0
        replace p124 := eq_true p124
        replace q124 := eq_true q124
        have p125 : 0 ≤ (x5_1 : Int) := of_decide_eq_true (by first | (with_reducible assumption) | assumption)
        have q125 : x5_1 < (l1.length : Int) := of_decide_eq_true (by first | (with_reducible assumption) | assumption)
        obtain ⟨ad125, A125_0, c125_0, e125, hx125_0, hl125_0, hi125_0⟩ := at_L2 HR1.out x5_1 p125 q125
        cases e125
        have HR125_0 := Aside0.mk hi125_0
        have HC125_0 := Aside0.mk hl125_0
        clear hi125_0 hl125_0
        replace p125 := eq_true p125
        replace q125 := eq_true q125
        go_wp2_with (first | (go_at_call 117; (with_reducible refine (laws_eqInt64S.calls k1 _ _ (rd_L2 l0 x5_1) _ _ (rd_L2 l1 x5_1) true _ ?side1 ?side2 ?side3 ?side4 A7.out).mono ?_); (case side1 => repeat (first | exact HR124_0.out | (with_reducible refine Kd.C_alloc ?_ _) | (with_reducible refine Kd.C_drewN ?_ _) | (with_reducible refine Kd.C_drew ?_))); (case side2 => exact HC124_0.out); (case side3 => repeat (first | exact HR125_0.out | (with_reducible refine Kd.C_alloc ?_ _) | (with_reducible refine Kd.C_drewN ?_ _) | (with_reducible refine Kd.C_drew ?_))); (case side4 => exact HC125_0.out); rintro e w' ⟨rfl, ⟨nd, rfl⟩⟩; (try first | exact ⟨rfl, _, World.drewN_drewN _ _ _⟩ | exact ⟨rfl, _, Eq.trans (World.drewN_drewN _ _ _) (congrArg (World.drewN _) (Nat.add_assoc _ _ _))⟩)))
        repeat (go_quiet (first | (go_at_call 117; (with_reducible refine (laws_eqInt64S.calls k1 _ _ (rd_L2 l0 x5_1) _ _ (rd_L2 l1 x5_1) true _ ?side1 ?side2 ?side3 ?side4 A7.out).mono ?_); (case side1 => repeat (first | exact HR124_0.out | (with_reducible refine Kd.C_alloc ?_ _) | (with_reducible refine Kd.C_drewN ?_ _) | (with_reducible refine Kd.C_drew ?_))); (case side2 => exact HC124_0.out); (case side3 => repeat (first | exact HR125_0.out | (with_reducible refine Kd.C_alloc ?_ _) | (with_reducible refine Kd.C_drewN ?_ _) | (with_reducible refine Kd.C_drew ?_))); (case side4 => exact HC125_0.out); rintro e w' ⟨rfl, ⟨nd, rfl⟩⟩; (try first | exact ⟨rfl, _, World.drewN_drewN _ _ _⟩ | exact ⟨rfl, _, Eq.trans (World.drewN_drewN _ _ _) (congrArg (World.drewN _) (Nat.add_assoc _ _ _))⟩))); try go_wp2_with (first | (go_at_call 117; (with_reducible refine (laws_eqInt64S.calls k1 _ _ (rd_L2 l0 x5_1) _ _ (rd_L2 l1 x5_1) true _ ?side1 ?side2 ?side3 ?side4 A7.out).mono ?_); (case side1 => repeat (first | exact HR124_0.out | (with_reducible refine Kd.C_alloc ?_ _) | (with_reducible refine Kd.C_drewN ?_ _) | (with_reducible refine Kd.C_drew ?_))); (case side2 => exact HC124_0.out); (case side3 => repeat (first | exact HR125_0.out | (with_reducible refine Kd.C_alloc ?_ _) | (with_reducible refine Kd.C_drewN ?_ _) | (with_reducible refine Kd.C_drew ?_))); (case side4 => exact HC125_0.out); rintro e w' ⟨rfl, ⟨nd, rfl⟩⟩; (try first | exact ⟨rfl, _, World.drewN_drewN _ _ _⟩ | exact ⟨rfl, _, Eq.trans (World.drewN_drewN _ _ _) (congrArg (World.drewN _) (Nat.add_assoc _ _ _))⟩))))
        go_roundg k1
        case measure => have := HK1.out; omega
        case rel => exact ⟨(wrap64 (x5_1 + 1)), (by first | rfl | (simp; done) | (simp [*]; done) | (simp [wrap64]; done)), H', ⟨by have := HK1.out; omega⟩, by repeat (first | exact Drawn0.refl _ | apply Drawn0.step)⟩
       ·replace c8 := Bool.eq_false_iff.mpr c8
        subst c8
        have H1 : (some false) = some r := by rw [if_neg (show ¬ (false = true) by decide)] at H; exact H
        clear H
        have H := H1
        clear H1
        obtain rfl := Option.some.inj H
        simp only [Option.some.injEq, Prod.mk.injEq] at H
        obtain ⟨rfl⟩ := H
        have p124 : 0 ≤ (x5_1 : Int) := of_decide_eq_true (by first | (with_reducible assumption) | assumption)
        have q124 : x5_1 < (l0.length : Int) := of_decide_eq_true (by first | (with_reducible assumption) | assumption)
        obtain ⟨ad124, A124_0, c124_0, e124, hx124_0, hl124_0, hi124_0⟩ := at_L2 HR0.out x5_1 p124 q124
        cases e124
        have HR124_0 := Aside0.mk hi124_0
        have HC124_0 := Aside0.mk hl124_0
        clear hi124_0 hl124_0
        replace p124 := eq_true p124
        replace q124 := eq_true q124
        have p125 : 0 ≤ (x5_1 : Int) := of_decide_eq_true (by first | (with_reducible assumption) | assumption)
        have q125 : x5_1 < (l1.length : Int) := of_decide_eq_true (by first | (with_reducible assumption) | assumption)
        obtain ⟨ad125, A125_0, c125_0, e125, hx125_0, hl125_0, hi125_0⟩ := at_L2 HR1.out x5_1 p125 q125
        cases e125
        have HR125_0 := Aside0.mk hi125_0
        have HC125_0 := Aside0.mk hl125_0
        clear hi125_0 hl125_0
        replace p125 := eq_true p125
        replace q125 := eq_true q125
        go_wp2_with (first | (go_at_call 117; (with_reducible refine (laws_eqInt64S.calls k1 _ _ (rd_L2 l0 x5_1) _ _ (rd_L2 l1 x5_1) false _ ?side1 ?side2 ?side3 ?side4 A7.out).mono ?_); (case side1 => repeat (first | exact HR124_0.out | (with_reducible refine Kd.C_alloc ?_ _) | (with_reducible refine Kd.C_drewN ?_ _) | (with_reducible refine Kd.C_drew ?_))); (case side2 => exact HC124_0.out); (case side3 => repeat (first | exact HR125_0.out | (with_reducible refine Kd.C_alloc ?_ _) | (with_reducible refine Kd.C_drewN ?_ _) | (with_reducible refine Kd.C_drew ?_))); (case side4 => exact HC125_0.out); rintro e w' ⟨rfl, ⟨nd, rfl⟩⟩; (try first | exact ⟨rfl, _, World.drewN_drewN _ _ _⟩ | exact ⟨rfl, _, Eq.trans (World.drewN_drewN _ _ _) (congrArg (World.drewN _) (Nat.add_assoc _ _ _))⟩)))
        repeat (go_quiet (first | (go_at_call 117; (with_reducible refine (laws_eqInt64S.calls k1 _ _ (rd_L2 l0 x5_1) _ _ (rd_L2 l1 x5_1) false _ ?side1 ?side2 ?side3 ?side4 A7.out).mono ?_); (case side1 => repeat (first | exact HR124_0.out | (with_reducible refine Kd.C_alloc ?_ _) | (with_reducible refine Kd.C_drewN ?_ _) | (with_reducible refine Kd.C_drew ?_))); (case side2 => exact HC124_0.out); (case side3 => repeat (first | exact HR125_0.out | (with_reducible refine Kd.C_alloc ?_ _) | (with_reducible refine Kd.C_drewN ?_ _) | (with_reducible refine Kd.C_drew ?_))); (case side4 => exact HC125_0.out); rintro e w' ⟨rfl, ⟨nd, rfl⟩⟩; (try first | exact ⟨rfl, _, World.drewN_drewN _ _ _⟩ | exact ⟨rfl, _, Eq.trans (World.drewN_drewN _ _ _) (congrArg (World.drewN _) (Nat.add_assoc _ _ _))⟩))); try go_wp2_with (first | (go_at_call 117; (with_reducible refine (laws_eqInt64S.calls k1 _ _ (rd_L2 l0 x5_1) _ _ (rd_L2 l1 x5_1) false _ ?side1 ?side2 ?side3 ?side4 A7.out).mono ?_); (case side1 => repeat (first | exact HR124_0.out | (with_reducible refine Kd.C_alloc ?_ _) | (with_reducible refine Kd.C_drewN ?_ _) | (with_reducible refine Kd.C_drew ?_))); (case side2 => exact HC124_0.out); (case side3 => repeat (first | exact HR125_0.out | (with_reducible refine Kd.C_alloc ?_ _) | (with_reducible refine Kd.C_drewN ?_ _) | (with_reducible refine Kd.C_drew ?_))); (case side4 => exact HC125_0.out); rintro e w' ⟨rfl, ⟨nd, rfl⟩⟩; (try first | exact ⟨rfl, _, World.drewN_drewN _ _ _⟩ | exact ⟨rfl, _, Eq.trans (World.drewN_drewN _ _ _) (congrArg (World.drewN _) (Nat.add_assoc _ _ _))⟩))))
        go_ret
        exact ⟨by first | rfl | (simp; done) | (simp [*]; done) | (simp [wrap64]; done), by repeat (first | exact Drawn0.refl _ | apply Drawn0.step)⟩
      ·rw [if_neg c6] at H
       exact absurd H (by simp)
     ·rw [if_neg c5] at H
      exact absurd H (by simp)
    ·rw [if_neg c4] at H
     have c4b0 : decide (x5_1 < (l0.length : Int)) = false := decide_eq_false c4
     clear c4
     obtain rfl := Option.some.inj H
     simp only [Option.some.injEq, Prod.mk.injEq] at H
     obtain ⟨rfl⟩ := H
     go_wp2
     repeat (go_quiet (fail); try go_wp2)
     go_ret
     exact ⟨by first | rfl | (simp; done) | (simp [*]; done) | (simp [wrap64]; done), by repeat (first | exact Drawn0.refl _ | apply Drawn0.step)⟩
 ·rw [if_neg c3] at H
  have c3b0 : ((l0.length : Int) == (l1.length : Int)) = false := beq_eq_false_iff_ne.mpr c3
  have c3b1 : ((l0.length : Int) != (l1.length : Int)) = true := bne_iff_ne.mpr c3
  have c3b2 : (l0.length == l1.length) = false := by first | simpa using c3 | (simp at c3 ⊢; omega)
  obtain rfl := Option.some.inj H
  simp only [Option.some.injEq, Prod.mk.injEq] at H
  obtain ⟨rfl⟩ := H
  go_enter Tryd.func56, Tryd.ntmps56
  go_wp2
  repeat (go_quiet (fail); try go_wp2)
  go_ret
  exact ⟨by first | rfl | (simp; done) | (simp [*]; done) | (simp [wrap64]; done), by repeat (first | exact Drawn0.refl _ | apply Drawn0.step)⟩
end Go.Proofs.YtbamnonamdpooaaDoor.PT3
namespace Go.Proofs.YtbamnonamdpooaaDoor.PT3
open Go.RowKit Go.Proofs.YtbamnonamdpooaaDoorW.PrintWords Go.Proofs.YtbamnonamdpooaaDoorW.PrintLast Go.Proofs.YtbamnonamdpooaaDoorW.PrintMore PL1 Rw
attribute [local go_sem] max2_int min2_int max_two min_two max_three min_three max_four min_four   -- for this text's walks alone
set_option linter.unusedVariables false
set_option linter.unusedSimpArgs false
end Go.Proofs.YtbamnonamdpooaaDoor.PT3
namespace Go.Proofs.YtbamnonamdpooaaDoor.PureRel
set_option linter.unusedVariables false
set_option linter.unusedSimpArgs false
open Go.RowKit Go.Proofs.YtbamnonamdpooaaDoorW.PrintWords Go.Proofs.YtbamnonamdpooaaDoorW.PrintLast Go.Proofs.YtbamnonamdpooaaDoorW.PrintMore PL1 Rw PT3 Go.Proofs.YtbamnonamdpooaaDoor.Pure
/-! ### copies -/
theorem toBool_ev (xs : List Bool) (h : xs.length ≤ 281474976710656) : Ev (fun k => laws_toBoolS.f k xs) xs := by
 have key := ev_copy (fun k ys i => laws_toBoolS.l0 k xs ys i) xs false
  (fun ys hy => ev_const (fun k => by simp [laws_toBoolS.l0]))
  (fun i hi ys r hy H => ev_step (fun k => by
   simp only [laws_toBoolS.l0]
   rw [if_pos (by omega), if_pos (by omega), if_pos (by omega), rdOf_nat false xs i hi, wrap_up (by omega), Int.toNat_natCast]) H)
 exact Ev.congr (fun k => by unfold laws_toBoolS.f; rw [if_pos (by omega), if_pos (by simpa using h)]; simp) key
theorem row_nat (xs : List (List Int)) (i : Nat) (h : i < xs.length) : Go.Proofs.YtbamnonamdpooaaDoor.PT3.rd_L2 xs (i : Int) = xs[i] := getD_nat _ _ _ h
theorem toRows_is (xs : List (List Int)) (h : xs.length ≤ 1048576) (hs : ∀ r ∈ xs, r.length ≤ 1048576) : laws_toInt64SS.f xs = some xs := by
 unfold laws_toInt64SS.f
 rw [if_pos ⟨h, hs⟩]
theorem toRel_ev (s t : Int) (a : List Bool) (b : List (List Int)) (ha : a.length ≤ 1048576) (hb : b.length ≤ 1048576) (hs : ∀ r ∈ b, r.length ≤ 1048576) : Ev (fun k => laws_toRelation.f k s t a b) (s, t, a, b) :=
 ev_call (toBool_ev a (by omega)) (f := fun k x => (laws_toInt64SS.f b).bind fun y => some (s, t, x, y)) (ev_some (toRows_is b hb hs) (f := fun k y => some (s, t, a, y)) (Ev.now _) (fun _ => rfl)) (fun _ => rfl)
/-! ### equal -/
theorem eqBool_ev (a : List Bool) (h : a.length ≤ 1048576) : Ev (fun k => laws_eqBoolS.f k a a) true := by
 have key := ev_up (fun k i (_ : Unit) => laws_eqBoolS.l0 k a a i) a.length (fun _ => ()) true (ev_const (fun k => by simp [laws_eqBoolS.l0]))
  (fun i hi H => ev_step (fun k => by
   simp only [laws_eqBoolS.l0]
   rw [if_pos (by omega), if_pos (by omega), if_pos (by omega), if_neg (by simp), wrap_up (by omega)]) H)
 exact Ev.congr (fun k => by simp [laws_eqBoolS.f]) key
theorem eqLongs_ev (a : List Int) (h : a.length ≤ 1048576) : Ev (fun k => laws_eqInt64S.f k a a) true := by
 have key := ev_up (fun k i (_ : Unit) => laws_eqInt64S.l0 k a a i) a.length (fun _ => ()) true (ev_const (fun k => by simp [laws_eqInt64S.l0]))
  (fun i hi H => ev_step (fun k => by
   simp only [laws_eqInt64S.l0]
   rw [if_pos (by omega), if_pos (by omega), if_pos (by omega), if_pos trivial, wrap_up (by omega)]) H)
 exact Ev.congr (fun k => by simp [laws_eqInt64S.f]) key
theorem eqRows_ev (a : List (List Int)) (h : a.length ≤ 1048576) (hs : ∀ r ∈ a, r.length ≤ 1048576) : Ev (fun k => laws_eqInt64SS.f k a a) true := by
 have key := ev_up (fun k i (_ : Unit) => laws_eqInt64SS.l0 k a a i) a.length (fun _ => ()) true (ev_const (fun k => by simp [laws_eqInt64SS.l0]))
  (fun i hi H => by
   refine ev_step (f := fun k => (laws_eqInt64S.f k a[i] a[i]).bind fun t => if t = true then laws_eqInt64SS.l0 k a a ((i : Int) + 1) else some false) (fun k => ?_) (Ev.bind (eqLongs_ev a[i] (hs _ (List.getElem_mem hi))) (ev_ift rfl H))
   simp only [laws_eqInt64SS.l0]
   rw [if_pos (by omega), if_pos (by omega), if_pos (by omega), row_nat a i hi, wrap_up (by omega)])
 exact Ev.congr (fun k => by simp [laws_eqInt64SS.f]) key
/-! ### sizes -/
theorem szLongs_is (x : List Int) (m : Int) (h0 : 0 ≤ m) (hm : m ≤ 1048576) (hx : x.length ≤ 9223372036854775807) : ∃ v, laws_szInt64S.f x m = some v ∧ v ≤ m ∧ (0 ≤ v → x.length ≤ 1048576 ∧ v = m - x.length) := by
 have w1 : wrap64 (m - x.length) = m - x.length := wrap_id (by omega) (by omega)
 unfold laws_szInt64S.f
 rw [w1]
 by_cases q : m - (x.length : Int) < 0
 ·rw [if_pos q]; exact ⟨-1, rfl, by omega, fun h => absurd h (by omega)⟩
 ·rw [if_neg q]; exact ⟨_, rfl, by omega, fun _ => ⟨by omega, rfl⟩⟩
theorem szRows_ev (c : List (List Int)) (n : Int) (h0 : 0 ≤ n) (hn : n ≤ 1048576) (hl : c.length ≤ 9223372036854775807) (hs : ∀ x ∈ c, x.length ≤ 9223372036854775807) :
  ∃ r, Ev (fun k => laws_szInt64SS.f k c n) r ∧ r ≤ n ∧ (0 ≤ r → c.length ≤ 1048576 ∧ (∀ x ∈ c, x.length ≤ 1048576) ∧ (c.map List.length).sum ≤ 1048576) := by
 have hw : wrap64 (n - c.length) = n - c.length := wrap_id (by omega) (by omega)
 by_cases hlt : n - c.length < 0
 ·exact ⟨-1, Ev.congr (fun k => by unfold laws_szInt64SS.f; rw [hw, if_pos hlt]) (Ev.now _), by omega, fun h => absurd h (by omega)⟩
 ·have key : ∀ d i (m : Int), d + i = c.length → 0 ≤ m → m ≤ n - c.length → ∃ r, Ev (fun k => laws_szInt64SS.l0 k c m (i : Int)) r ∧ r ≤ n ∧ (0 ≤ r → (∀ j, i ≤ j → (h : j < c.length) → c[j].length ≤ 1048576) ∧ (((c.drop i).map List.length).sum : Int) ≤ m) := by
   intro d
   induction d with
   | zero => intro i m hi h0 hm; exact ⟨m, ev_const (fun k => by simp only [laws_szInt64SS.l0]; rw [if_neg (by omega)]), by omega, fun _ => ⟨fun j h1 h2 => by omega, by rw [List.drop_of_length_le (by omega)]; simpa using h0⟩⟩
   | succ d ih =>
    intro i m hi h0 hm
    have hi' : i < c.length := by omega
    obtain ⟨v, hv, hvm, hvl⟩ := szLongs_is c[i] m h0 (by omega) (hs _ (List.getElem_mem hi'))
    by_cases q : v < 0
    ·exact ⟨-1, ev_const (fun k => by
      simp only [laws_szInt64SS.l0]
      rw [if_pos (by omega), if_pos (by omega), row_nat c i hi', hv, Option.bind_some, if_pos q]), by omega, fun h => absurd h (by omega)⟩
    ·obtain ⟨r, hr, hrn, hrl⟩ := ih (i + 1) v (by omega) (by omega) (by omega)
     refine ⟨r, ev_step (fun k => ?_) hr, hrn, fun h => ⟨fun j h1 h2 => ?_, ?_⟩⟩
     ·simp only [laws_szInt64SS.l0]
      rw [if_pos (by omega), if_pos (by omega), row_nat c i hi', hv, Option.bind_some, if_neg q, wrap_up (by omega)]
      simp
     ·by_cases e : j = i
      ·subst e; exact (hvl (by omega)).1
      ·exact (hrl h).1 j (by omega) h2
     ·have h5 := (hrl h).2
      have h6 := (hvl (by omega)).2
      rw [List.drop_eq_getElem_cons hi', List.map_cons, List.sum_cons]
      omega
  obtain ⟨r, hr, hrn, hrl⟩ := key c.length 0 _ (by omega) (by omega) (Int.le_refl _)
  refine ⟨r, Ev.congr (fun k => ?_) hr, hrn, fun h => ⟨by omega, fun x hx => ?_, by have := (hrl h).2; rw [List.drop_zero] at this; omega⟩⟩
  ·unfold laws_szInt64SS.f
   rw [hw, if_neg hlt]
   rfl
  ·obtain ⟨j, hj, rfl⟩ := List.mem_iff_getElem.1 hx
   exact (hrl h).1 j (by omega) hj
theorem szRel_ev (s t : Int) (a : List Bool) (c : List (List Int)) (n : Int) (h0 : 0 ≤ n) (hn : n ≤ 1048576) (ha : a.length ≤ 9223372036854775807) (hl : c.length ≤ 9223372036854775807) (hs : ∀ x ∈ c, x.length ≤ 9223372036854775807) :
  ∃ r, Ev (fun k => laws_szRelation.f k s t a c n) r ∧ (0 ≤ r → a.length ≤ 1048576 ∧ c.length ≤ 1048576 ∧ (∀ x ∈ c, x.length ≤ 1048576) ∧ (c.map List.length).sum ≤ 1048576) := by
 have w1 : wrap64 (n - a.length) = n - a.length := wrap_id (by omega) (by omega)
 unfold laws_szRelation.f laws_szBoolS.f
 rw [w1]
 by_cases q : n - (a.length : Int) < 0
 ·exact ⟨-1, Ev.congr (fun k => by rw [if_pos q, Option.bind_some, if_pos (by decide)]) (Ev.now _), fun h => absurd h (by omega)⟩
 ·obtain ⟨r, hr, hrn, hrl⟩ := szRows_ev c (n - a.length) (by omega) (by omega) hl hs
  by_cases q2 : r < 0
  ·refine ⟨-1, Ev.congr (f := fun k => (laws_szInt64SS.f k c (n - a.length)).bind fun t => if t < 0 then some (-1) else some t) (fun k => by rw [if_neg q, Option.bind_some, if_neg q]) ?_, fun h => absurd h (by omega)⟩
   exact Ev.bind hr (ev_ift q2 (Ev.now _))
  ·refine ⟨r, Ev.congr (f := fun k => (laws_szInt64SS.f k c (n - a.length)).bind fun t => if t < 0 then some (-1) else some t) (fun k => by rw [if_neg q, Option.bind_some, if_neg q]) ?_, fun h => ⟨by omega, hrl h⟩⟩
   exact Ev.bind hr (ev_iff q2 (Ev.now _))
end Go.Proofs.YtbamnonamdpooaaDoor.PureRel
namespace Go.Proofs.YtbamnonamdpooaaDoor.Lr
set_option linter.unusedVariables false
set_option linter.unusedSimpArgs false
open Go.RowKit Go.Proofs.YtbamnonamdpooaaDoorW.PrintWords Go.Proofs.YtbamnonamdpooaaDoorW.PrintLast Go.Proofs.YtbamnonamdpooaaDoorW.PrintMore Kp PT3 Go.Proofs.YtbamnonamdpooaaDoor.Pure PureRel Rw
/-- What a relation's cells hold, as arguments. -/
structure Arg (w : World) (A2 : Option Addr) (c2 : Nat) (a : List Bool) (A3 : Option Addr) (c3 : Nat) (b : List (List Int)) : Prop where
 r2 : Kd.C Kd.bool w A2 a.length a
 l2 : a.length ≤ c2
 r3 : Kd.C (Kd.slice 2 (Kd.int .i64)) w A3 b.length b
 l3 : b.length ≤ c3
/-- Sizes that a law lets in. -/
structure Small (a : List Bool) (b : List (List Int)) : Prop where
 la : a.length ≤ 1048576
 lb : b.length ≤ 1048576
 lr : ∀ r ∈ b, r.length ≤ 1048576
section
variable {w w' : World} {A2 : Option Addr} {c2 : Nat} {a : List Bool} {A3 : Option Addr} {c3 : Nat} {b : List (List Int)}
theorem Arg.below (h : Arg w A2 c2 a A3 c3 b) (hb : Below w.heap.size w w') : Arg w' A2 c2 a A3 c3 b := ⟨Kd.C_below h.r2 hb, h.l2, Kd.C_below h.r3 hb, h.l3⟩
end
/-- The reference's test of a relation. -/
theorem ok_spec (gp : Nat) (t s : Int) (A2 : Option Addr) (c2 : Nat) (a : List Bool) (A3 : Option Addr) (c3 : Nat) (b : List (List Int)) (w : World) (hP : w.heap[gp]? = some (.cells #[.int .i64 t, .int .i64 s, .slice A2 a.length c2, .slice A3 b.length c3] 29 (0, 0))) (hA : Arg w A2 c2 a A3 c3 b) (hS : Small a b) :
  Calls Tryd.prog 87 #[.pointer (some ⟨gp, 0, none⟩)] w fun e w' => e = .returned (.bool (okR t s a b)) ∧ Below w.heap.size w w' := by
 have hgp := blk_lt hP
 have m0 : w.cell? ⟨gp, 0, none⟩ = some (.int .i64 t) := (blk_cell hP 0).trans rfl
 have m1 : w.cell? ⟨gp, 1, none⟩ = some (.int .i64 s) := (blk_cell hP 1).trans rfl
 have m2 : w.cell? ⟨gp, 2, none⟩ = some (.slice A2 a.length c2) := (blk_cell hP 2).trans rfl
 have m3 : w.cell? ⟨gp, 3, none⟩ = some (.slice A3 b.length c3) := (blk_cell hP 3).trans rfl
 by_cases h : a.length ≤ 150
 ·have h1 : ((a.length : Int) ≤ 150) = True := eq_true (by omega)
  have hr : okR t s a b = okF t s a b := by unfold okR; rw [decide_eq_true h, Bool.true_and]
  rw [hr]
  clear hr
  go_enter Tryd.func87, Tryd.ntmps87
  go_wp2_with (go_at_call 144; go_loud (
   with_reducible refine (form gp t s A2 c2 a A3 c3 b _ hP hA.r3 hA.l3 hS.la hS.lb hS.lr).mono ?_
   rintro e w1 ⟨rfl, hb1⟩))
  go_ret
  exact ⟨rfl, hb1⟩
 ·have h1 : ((a.length : Int) ≤ 150) = False := eq_false (by omega)
  have hr : okR t s a b = false := by unfold okR; rw [decide_eq_false h, Bool.false_and]
  rw [hr]
  go_enter Tryd.func87, Tryd.ntmps87
  go_wp2_with fail
  go_ret
  exact ⟨rfl, Below.refl _ _⟩
/-- The code of a relation that should have two tapes. -/
def twoC (t s : Int) (a : List Bool) (b : List (List Int)) : Int := if okR t s a b = true then (if t = 2 then 0 else 2) else 1
theorem two_spec (gp : Nat) (t s : Int) (A2 : Option Addr) (c2 : Nat) (a : List Bool) (A3 : Option Addr) (c3 : Nat) (b : List (List Int)) (w : World) (hP : w.heap[gp]? = some (.cells #[.int .i64 t, .int .i64 s, .slice A2 a.length c2, .slice A3 b.length c3] 29 (0, 0))) (hA : Arg w A2 c2 a A3 c3 b) (hS : Small a b) :
  Calls Tryd.prog 47 #[.pointer (some ⟨gp, 0, none⟩)] w fun e w' => e = .returned (.int .i64 (twoC t s a b)) ∧ Below w.heap.size w w' := by
 have hgp := blk_lt hP
 have hc := Aside0.mk (ok_spec gp t s A2 c2 a A3 c3 b w hP hA hS)
 have m0 : w.cell? ⟨gp, 0, none⟩ = some (.int .i64 t) := (blk_cell hP 0).trans rfl
 have m1 : w.cell? ⟨gp, 1, none⟩ = some (.int .i64 s) := (blk_cell hP 1).trans rfl
 have m2 : w.cell? ⟨gp, 2, none⟩ = some (.slice A2 a.length c2) := (blk_cell hP 2).trans rfl
 have m3 : w.cell? ⟨gp, 3, none⟩ = some (.slice A3 b.length c3) := (blk_cell hP 3).trans rfl
 unfold twoC
 cases ho : okR t s a b with
 | false =>
  rw [if_neg (by simp)]
  rw [ho] at hc
  clear ho
  go_enter Tryd.func47, Tryd.ntmps47
  go_wp2_with (go_at_call 87; go_loud (
   with_reducible refine hc.out.mono ?_
   rintro e w1 ⟨rfl, hb1⟩))
  go_ret
  exact ⟨rfl, hb1⟩
 | true =>
  rw [if_pos rfl]
  rw [ho] at hc
  clear ho
  by_cases h : t = 2
  ·subst h
   rw [if_pos rfl]
   go_enter Tryd.func47, Tryd.ntmps47
   go_wp2_with (go_at_call 87; go_loud (
    with_reducible refine hc.out.mono ?_
    rintro e w1 ⟨rfl, hb1⟩
    have k0 := at_cell hb1 m0))
   go_ret
   exact ⟨rfl, hb1⟩
  ·rw [if_neg h]
   have h1 : (t = 2) = False := eq_false h
   have h2 : (t == 2) = false := beq_eq_false_iff_ne.mpr h
   have h3 : (t != 2) = true := bne_iff_ne.mpr h
   clear h
   go_enter Tryd.func47, Tryd.ntmps47
   go_wp2_with (go_at_call 87; go_loud (
    with_reducible refine hc.out.mono ?_
    rintro e w1 ⟨rfl, hb1⟩
    have k0 := at_cell hb1 m0))
   go_ret
   exact ⟨rfl, hb1⟩
set_option maxHeartbeats 2000000 in
/-- The program's code of one relation that should have two tapes. -/
theorem pairs_one (g : Nat) (t s : Int) (A2 : Option Addr) (c2 : Nat) (a : List Bool) (A3 : Option Addr) (c3 : Nat) (b : List (List Int)) (w : World) (hP : w.heap[g]? = some (.cells #[.int .i64 t, .int .i64 s, .slice A2 a.length c2, .slice A3 b.length c3] 29 (0, 0))) (hA : Arg w A2 c2 a A3 c3 b) (hS : Small a b) :
  Calls Tryd.prog 52 #[.slice (some ⟨g, 0, none⟩) 1 1] w fun e w' => e = .returned (.int .i64 (twoC t s a b)) ∧ Below w.heap.size w w' := by
 have hgp := blk_lt hP
 have m0 : w.cell? ⟨g, 0, none⟩ = some (.int .i64 t) := (blk_cell hP 0).trans rfl
 have m1 : w.cell? ⟨g, 1, none⟩ = some (.int .i64 s) := (blk_cell hP 1).trans rfl
 have m2 : w.cell? ⟨g, 2, none⟩ = some (.slice A2 a.length c2) := (blk_cell hP 2).trans rfl
 have m3 : w.cell? ⟨g, 3, none⟩ = some (.slice A3 b.length c3) := (blk_cell hP 3).trans rfl
 have hv : Aside0 (∀ W, Below w.heap.size w W → Calls Tryd.prog 90 #[.agg #[.int .i64 t, .int .i64 s, .slice A2 a.length c2, .slice A3 b.length c3]] W fun e w' => e = .returned (.bool (okR t s a b)) ∧ Below W.heap.size W w') := ⟨fun W hb => valid t s A2 c2 a A3 c3 b W (hA.below hb).r3 hA.l3 hS.la hS.lb hS.lr⟩
 unfold twoC
 cases ho' : okR t s a b with
 | false =>
  have ho := Aside0.mk ho'
  clear ho'
  rw [if_neg (by simp)]
  go_enter Tryd.func52, Tryd.ntmps52
  go_wp2_with fail
  go_loopg [9] 1 (fun kq v9 W => v9 = .int .i64 0 ∧ W = w)
  case atStart => exact ⟨rfl, rfl⟩
  case round =>
   obtain ⟨rfl, rfl⟩ := hrel
   go_wp2_with (go_at_call 90; go_loud (
    with_reducible refine (hv.out _ (by repeat (first | exact Below.refl _ _ | apply below_alloc | (refine Below.setCell ?_ (by simp) _)))).mono ?_
    rintro e w1 ⟨he, hb1⟩
    rw [ho.out] at he
    subst he
    have hB1 : Below wr.heap.size wr w1 := below_step (by repeat (first | exact Below.refl _ _ | apply below_alloc | (refine Below.setCell ?_ (by simp) _))) hb1))
   go_ret
   exact ⟨rfl, hB1⟩
 | true =>
  have ho := Aside0.mk ho'
  clear ho'
  rw [if_pos rfl]
  have hw1 : wrap64 (0 + 1) = 1 := by unfold wrap64; decide
  by_cases h : t = 2
  ·rw [if_pos h]
   have h1 : (t = 2) = True := eq_true h
   have h2 : (t == 2) = true := by simp [h]
   have h3 : (t != 2) = false := by simp [h]
   clear h
   go_enter Tryd.func52, Tryd.ntmps52
   go_wp2_with fail
   go_loopg [9] 2 (fun kq v9 W => (v9 = .int .i64 0 ∧ Aside0 (kq = 2) ∧ W = w) ∨ (v9 = .int .i64 1 ∧ Aside0 (kq = 1) ∧ Aside0 (Below w.heap.size w W)))
   case atStart => exact .inl ⟨rfl, ⟨rfl⟩, rfl⟩
   case round =>
    rcases hrel with ⟨rfl, hk, rfl⟩ | ⟨rfl, hk, hb0⟩
    ·go_wp2_with (go_at_call 90; go_loud (
      with_reducible refine (hv.out _ (by repeat (first | exact Below.refl _ _ | apply below_alloc | (refine Below.setCell ?_ (by simp) _)))).mono ?_
      rintro e w1 ⟨he, hb1⟩
      rw [ho.out] at he
      subst he
      have hB1 : Below wr.heap.size wr w1 := below_step (by repeat (first | exact Below.refl _ _ | apply below_alloc | (refine Below.setCell ?_ (by simp) _))) hb1))
     go_roundg 1
     case measure => have := hk.out; omega
     case rel => exact .inr ⟨(by first | rfl | go_num), ⟨rfl⟩, ⟨hB1⟩⟩
    ·have m0 := at_cell hb0.out m0
     have m1 := at_cell hb0.out m1
     have m2 := at_cell hb0.out m2
     have m3 := at_cell hb0.out m3
     go_wp2_with fail
     go_loopg [19] 2 (fun kq v19 W => (v19 = .int .i64 0 ∧ Aside0 (kq = 2) ∧ W = wr) ∨ (v19 = .int .i64 1 ∧ Aside0 (kq = 1) ∧ Aside0 (Below w.heap.size w W)))
     case atStart => exact .inl ⟨rfl, ⟨rfl⟩, rfl⟩
     case round =>
      rcases hrel with ⟨rfl, hk, rfl⟩ | ⟨rfl, hk, hb1⟩
      ·go_wp2_with fail
       go_roundg 1
       case measure => have := hk.out; omega
       case rel => exact .inr ⟨(by first | rfl | go_num), ⟨rfl⟩, ⟨by repeat (first | exact hb0.out | apply below_alloc | (refine Below.setCell ?_ (by have := Below.size hb0.out; simp <;> omega) _))⟩⟩
      ·go_wp2_with fail
       go_ret
       exact ⟨rfl, hb1.out⟩
  ·rw [if_neg h]
   have h1 : (t = 2) = False := eq_false h
   have h2 : (t == 2) = false := beq_eq_false_iff_ne.mpr h
   have h3 : (t != 2) = true := bne_iff_ne.mpr h
   clear h
   go_enter Tryd.func52, Tryd.ntmps52
   go_wp2_with fail
   go_loopg [9] 2 (fun kq v9 W => (v9 = .int .i64 0 ∧ Aside0 (kq = 2) ∧ W = w) ∨ (v9 = .int .i64 1 ∧ Aside0 (kq = 1) ∧ Aside0 (Below w.heap.size w W)))
   case atStart => exact .inl ⟨rfl, ⟨rfl⟩, rfl⟩
   case round =>
    rcases hrel with ⟨rfl, hk, rfl⟩ | ⟨rfl, hk, hb0⟩
    ·go_wp2_with (go_at_call 90; go_loud (
      with_reducible refine (hv.out _ (by repeat (first | exact Below.refl _ _ | apply below_alloc | (refine Below.setCell ?_ (by simp) _)))).mono ?_
      rintro e w1 ⟨he, hb1⟩
      rw [ho.out] at he
      subst he
      have hB1 : Below wr.heap.size wr w1 := below_step (by repeat (first | exact Below.refl _ _ | apply below_alloc | (refine Below.setCell ?_ (by simp) _))) hb1))
     go_roundg 1
     case measure => have := hk.out; omega
     case rel => exact .inr ⟨(by first | rfl | go_num), ⟨rfl⟩, ⟨hB1⟩⟩
    ·have m0 := at_cell hb0.out m0
     have m1 := at_cell hb0.out m1
     have m2 := at_cell hb0.out m2
     have m3 := at_cell hb0.out m3
     go_wp2_with fail
     go_loopg [19] 2 (fun kq v19 W => v19 = .int .i64 0 ∧ W = wr)
     case atStart => exact ⟨rfl, rfl⟩
     case round =>
      obtain ⟨rfl, rfl⟩ := hrel
      go_wp2_with fail
      go_ret
      exact ⟨rfl, by repeat (first | exact hb0.out | apply below_alloc | (refine Below.setCell ?_ (by have := Below.size hb0.out; simp <;> omega) _))⟩
/-- Two relations that hold the same are told equal. -/
theorem eq_same (t s : Int) (A2 : Option Addr) (c2 : Nat) (a : List Bool) (A3 : Option Addr) (c3 : Nat) (b : List (List Int)) (B2 : Option Addr) (d2 : Nat) (B3 : Option Addr) (d3 : Nat) (w : World) (hA : Arg w A2 c2 a A3 c3 b) (hB : Arg w B2 d2 a B3 d3 b) (hS : Small a b) :
  Calls Tryd.prog 16 #[.agg #[.int .i64 t, .int .i64 s, .slice A2 a.length c2, .slice A3 b.length c3], .agg #[.int .i64 t, .int .i64 s, .slice B2 a.length d2, .slice B3 b.length d3]] w fun e w' => e = .returned (.bool true) ∧ Below w.heap.size w w' := by
 obtain ⟨k1, hk1⟩ := (eqBool_ev a hS.la).rounds
 obtain ⟨k2, hk2⟩ := (eqRows_ev b hS.lb hS.lr).rounds
 have hk1 := Aside0.mk hk1
 have hk2 := Aside0.mk hk2
 have hb0 : Below w.heap.size w ((w.alloc (.cells #[.int .i64 t, .int .i64 s, .slice A2 a.length c2, .slice A3 b.length c3] 29)).alloc (.cells #[.int .i64 t, .int .i64 s, .slice B2 a.length d2, .slice B3 b.length d3] 29)) := below_alloc (below_alloc (Below.refl _ _) _) _
 have p3 : ((w.alloc (.cells #[.int .i64 t, .int .i64 s, .slice A2 a.length c2, .slice A3 b.length c3] 29)).alloc (.cells #[.int .i64 t, .int .i64 s, .slice B2 a.length d2, .slice B3 b.length d3] 29)).cell? ⟨w.heap.size, 3, none⟩ = some (.slice A3 b.length c3) := (blk_cell (blk_alloc (blk_new w (.cells #[.int .i64 t, .int .i64 s, .slice A2 a.length c2, .slice A3 b.length c3] 29)) _) 3).trans rfl
 have q3 : ((w.alloc (.cells #[.int .i64 t, .int .i64 s, .slice A2 a.length c2, .slice A3 b.length c3] 29)).alloc (.cells #[.int .i64 t, .int .i64 s, .slice B2 a.length d2, .slice B3 b.length d3] 29)).cell? ⟨w.heap.size + 1, 3, none⟩ = some (.slice B3 b.length d3) := (blk_cell (blk_at _ _ _ (by simp)) 3).trans rfl
 go_enter Tryd.func16, Tryd.ntmps16
 go_wp2_with (first
  | (go_at_call 55; go_loud (
    with_reducible refine (laws_eqBoolS.calls k1 _ _ a _ _ a true _ (Kd.C_below hA.r2 hb0) hA.l2 (Kd.C_below hB.r2 hb0) hB.l2 hk1.out).mono ?_
    rintro e w1 ⟨rfl, hd1⟩
    have hb1 := hd1.below
    have r3 := at_cell hb1 p3
    have s3 := at_cell hb1 q3
    have hB1 := below_step hb0 hb1))
  | (go_at_call 56; go_loud (
    with_reducible refine (laws_eqInt64SS.calls k2 _ _ b _ _ b true _ (Kd.C_below hA.r3 hB1) hA.l3 (Kd.C_below hB.r3 hB1) hB.l3 hk2.out).mono ?_
    rintro e w2 ⟨rfl, hd2⟩
    have hB2 := below_step hB1 hd2.below)))
 go_ret
 exact ⟨rfl, hB2⟩
end Go.Proofs.YtbamnonamdpooaaDoor.Lr
namespace Go.Proofs.YtbamnonamdpooaaDoor.In
set_option linter.unusedVariables false
set_option linter.unusedSimpArgs false
open Go.RowKit Go.Proofs.YtbamnonamdpooaaDoorW.PrintWords Go.Proofs.YtbamnonamdpooaaDoorW.PrintLast Go.Proofs.YtbamnonamdpooaaDoorW.PrintMore Kp Mg Mk Tdy Tf Tid Ti Tr Lr Sm Sq
section
variable {t s : Int} {a : List Bool} {b : List (List Int)}
/-- A valid relation is right enough to be made tidy. -/
theorem ok_tidy (h : okR t s a b = true) : okM t s a b := by
 unfold okR okF at h
 simp only [Bool.and_eq_true, decide_eq_true_eq, List.all_eq_true] at h
 obtain ⟨h150, ⟨⟨⟨ht, hl⟩, hs⟩, hb⟩, hr⟩ := h
 unfold okX at hs
 simp only [decide_eq_true_eq] at hs
 refine ⟨ht, by omega, by omega, by omega, fun r hm => ?_⟩
 have h1 := hr r hm
 unfold okW okX at h1
 simp only [Bool.and_eq_true, decide_eq_true_eq, List.all_eq_true] at h1
 exact ⟨h1.1, fun x hx => by have := h1.2 x hx; omega⟩
end
/-! ### the reference -/
def colN' (u tp d : Nat) : Nat := Wi.colN (Wi.insN (List.replicate u 2) tp d)
set_option maxHeartbeats 2000000 in
theorem one_ok (gp t tp : Nat) (htp : tp < t) (s : Int) (A2 : Option Addr) (c2 : Nat) (a : List Bool) (A3 : Option Addr) (c3 : Nat) (b : List (List Int)) (w : World) (hP : w.heap[gp]? = some (.cells #[.int .i64 (t : Int), .int .i64 s, .slice A2 a.length c2, .slice A3 b.length c3] 29 (0, 0))) (hA : Arg w A2 c2 a A3 c3 b) (hS : Small a b) (hok : okR (t : Int) s a b = true) :
  Calls Tryd.prog 171 #[.pointer (some ⟨gp, 0, none⟩), .int .i64 (tp : Int)] w fun e w' => e = .returned (.int .i64 0) ∧ Below w.heap.size w w' := by
 have hq := Aside0.mk (ok_spec gp (t : Int) s A2 c2 a A3 c3 b w hP hA hS)
 rw [hok] at hq
 have ht4 := (ok_tidy hok).1
 have hd : Aside0 (decide ((0 : Int) ≤ (tp : Int) ∧ (tp : Int) ≤ (t : Int) - 1) = true) := ⟨decide_eq_true ⟨by omega, by omega⟩⟩
 have wt : wrap64 ((t : Int) - 1) = (t : Int) - 1 := by unfold wrap64; omega
 clear hok ht4
 go_enter Tryd.func171, Tryd.ntmps171
 go_wp2_with (first
  | (go_at_call 87; go_loud (
    with_reducible refine hq.out.mono ?_
    rintro e w1 ⟨rfl, hb1⟩
    have m0 : w1.cell? ⟨gp, 0, none⟩ = some (.int .i64 (t : Int)) := (blk_cell (blk_below hP hb1) 0).trans rfl))
  | (go_at_call 119; go_loud (
    with_reducible refine (in_spec (tp : Int) 0 ((t : Int) - 1) _).mono ?_
    rintro e w2 ⟨he, hb2⟩
    rw [hd.out] at he
    subst he
    have hB2 := below_step hb1 hb2)))
 go_ret
 exact ⟨rfl, hB2⟩
set_option maxHeartbeats 2000000 in
theorem fewer_ok (gp t tp : Nat) (ht2 : 2 ≤ t) (htp : tp < t) (s : Int) (A2 : Option Addr) (c2 : Nat) (a : List Bool) (A3 : Option Addr) (c3 : Nat) (b : List (List Int)) (w : World) (hP : w.heap[gp]? = some (.cells #[.int .i64 (t : Int), .int .i64 s, .slice A2 a.length c2, .slice A3 b.length c3] 29 (0, 0))) (hA : Arg w A2 c2 a A3 c3 b) (hS : Small a b) (hok : okR (t : Int) s a b = true) :
  Calls Tryd.prog 153 #[.pointer (some ⟨gp, 0, none⟩), .int .i64 (tp : Int)] w fun e w' => e = .returned (.int .i64 0) ∧ Below w.heap.size w w' := by
 have hq := Aside0.mk (one_ok gp t tp htp s A2 c2 a A3 c3 b w hP hA hS hok)
 have hn1 : ((t : Int) = 1) = False := eq_false (by omega)
 have hn2 : ((t : Int) == 1) = false := by simp <;> omega
 clear hok
 go_enter Tryd.func153, Tryd.ntmps153
 go_wp2_with (go_at_call 171; go_loud (
    with_reducible refine hq.out.mono ?_
    rintro e w1 ⟨rfl, hb1⟩
    have m0 : w1.cell? ⟨gp, 0, none⟩ = some (.int .i64 (t : Int)) := (blk_cell (blk_below hP hb1) 0).trans rfl))
 go_ret
 exact ⟨rfl, hb1⟩
set_option maxHeartbeats 4000000 in
theorem someOn_spec (t tp : Nat) (ht : t < 4) (ht2 : 2 ≤ t) (htp : tp < t) (s : Int) (A2 : Option Addr) (c2 : Nat) (a : List Bool) (A3 : Option Addr) (c3 : Nat) (b : List (List Int)) (w : World) (hA : Arg w A2 c2 a A3 c3 b) (hS : Small a b) (hok : okR (t : Int) s a b = true) :
  Calls Tryd.prog 105 #[.agg #[.int .i64 (t : Int), .int .i64 s, .slice A2 a.length c2, .slice A3 b.length c3], .int .i64 (tp : Int)] w (Gives (someR t tp (tidM t s a b).1 (tidM t s a b).2) w) := by
 have hP := blk_alloc (blk_new w (.cells #[.int .i64 (t : Int), .int .i64 s, .slice A2 a.length c2, .slice A3 b.length c3] 29)) (.cells #[.int .i64 0, .int .i64 0, .slice none 0 0, .slice none 0 0] 29)
 have hb1 := below_alloc (below_alloc (Below.refl w.heap.size w) (.cells #[.int .i64 (t : Int), .int .i64 s, .slice A2 a.length c2, .slice A3 b.length c3] 29)) (.cells #[.int .i64 0, .int .i64 0, .slice none 0 0, .slice none 0 0] 29)
 have hZ : ((w.alloc (.cells #[.int .i64 (t : Int), .int .i64 s, .slice A2 a.length c2, .slice A3 b.length c3] 29)).alloc (.cells #[.int .i64 0, .int .i64 0, .slice none 0 0, .slice none 0 0] 29)).heap[w.heap.size + 1]? = some (.cells #[.int .i64 0, .int .i64 0, .slice none 0 0, .slice none 0 0] 29 (0, 0)) := blk_at _ _ _ (by simp)
 have hf := Aside0.mk (fewer_ok w.heap.size t tp ht2 htp s A2 c2 a A3 c3 b _ hP (hA.below hb1) hS hok)
 have hokM := Aside0.mk (ok_tidy hok)
 obtain ⟨RR, hRR⟩ : ∃ RR, someR t tp (tidM t s a b).1 (tidM t s a b).2 = RR := ⟨_, rfl⟩
 have hRq := Aside0.mk hRR
 rw [hRR]
 clear hok hRR
 go_enter Tryd.func105, Tryd.ntmps105
 go_wp2_with (first
  | (go_at_call 153; go_loud (
    with_reducible refine hf.out.mono ?_
    rintro e w2 ⟨rfl, hb2⟩
    have hP2 := blk_below hP hb2
    have hB2 := below_step hb1 hb2
    have hA2 := hA.below hB2))
  | (go_at_call 154; go_loud (
    have q := someOn w.heap.size t tp ht ht2 htp s A2 c2 a A3 c3 b hokM.out w2 hP2 hA2.r2 hA2.l2 hA2.r3 hA2.l3
    rw [hRq.out] at q
    with_reducible refine q.mono ?_
    rintro e w3 ⟨F2, y2, F3, y3, rfl, hRy, hb3⟩
    have hB3 := below_step hB2 hb3
    have b0 := blk_below (blk_below hZ hb2) hb3
    have e0 : w3.cell? ⟨w.heap.size + 1, 0, none⟩ = some (.int .i64 0) := (blk_cell b0 0).trans rfl
    have f0 : w3.frozen? ⟨w.heap.size + 1, 0, none⟩ = false := blk_frozen b0 0
    have e1 : w3.cell? ⟨w.heap.size + 1, 1, none⟩ = some (.int .i64 0) := (blk_cell b0 1).trans rfl
    have f1 : w3.frozen? ⟨w.heap.size + 1, 1, none⟩ = false := blk_frozen b0 1
    have e2 : w3.cell? ⟨w.heap.size + 1, 2, none⟩ = some (.slice none 0 0) := (blk_cell b0 2).trans rfl
    have f2 : w3.frozen? ⟨w.heap.size + 1, 2, none⟩ = false := blk_frozen b0 2
    have e3 : w3.cell? ⟨w.heap.size + 1, 3, none⟩ = some (.slice none 0 0) := (blk_cell b0 3).trans rfl
    have f3 : w3.frozen? ⟨w.heap.size + 1, 3, none⟩ = false := blk_frozen b0 3)))
 have b1 := blk_put b0 0 (.int .i64 RR.t) rfl
 have b2 := blk_put b1 1 (.int .i64 RR.s) rfl
 have b3 := blk_put b2 2 (.slice F2 RR.a.length y2) rfl
 have b4 := blk_put b3 3 (.slice F3 RR.b.length y3) rfl
 refine bodyPost_ret (results_ct rfl _ _ (w.heap.size + 1) 29 #[.int .i64 RR.t, .int .i64 RR.s, .slice F2 RR.a.length y2, .slice F3 RR.b.length y3] (0, 0) _ rfl b4 Tryd.underlying29 rfl (by kernel_rfl)) rfl ⟨F2, y2, F3, y3, rfl, ⟨?_, ?_⟩, ?_⟩
 ·have hR2 := hRy.r2
  exact Kd.R_lower (Kd.R_set (Kd.R_set (Kd.R_set (Kd.R_set hR2 b0 (by decide) 0 _) b1 (by decide) 1 _) b2 (by decide) 2 _) b3 (by decide) 3 _) (Below.size hB2)
 ·have hR3 := hRy.r3
  exact Kd.S_lower (Kd.S_set (Kd.S_set (Kd.S_set (Kd.S_set hR3 b0 (by decide) 0 _) b1 (by decide) 1 _) b2 (by decide) 2 _) b3 (by decide) 3 _) (Below.size hB2)
 ·exact (((hB3.setCell (by simp) _).setCell (by simp) _).setCell (by simp) _).setCell (by simp) _
/-! ### the program -/
set_option maxHeartbeats 2000000 in
theorem isTape (t tp : Nat) (htp : tp < t) (ht : t < 4) (s : Int) (A2 : Option Addr) (c2 : Nat) (a : List Bool) (A3 : Option Addr) (c3 : Nat) (b : List (List Int)) (w : World) :
  Calls Tryd.prog 175 #[.agg #[.int .i64 (t : Int), .int .i64 s, .slice A2 a.length c2, .slice A3 b.length c3], .int .i64 (tp : Int)] w fun e w' => e = .returned (.bool true) ∧ Below w.heap.size w w' := by
 have hP := blk_new w (.cells #[.int .i64 (t : Int), .int .i64 s, .slice A2 a.length c2, .slice A3 b.length c3] 29)
 have hb1 := below_alloc (Below.refl w.heap.size w) (.cells #[.int .i64 (t : Int), .int .i64 s, .slice A2 a.length c2, .slice A3 b.length c3] 29)
 have m0 : (w.alloc (.cells #[.int .i64 (t : Int), .int .i64 s, .slice A2 a.length c2, .slice A3 b.length c3] 29)).cell? ⟨w.heap.size, 0, none⟩ = some (.int .i64 (t : Int)) := (blk_cell hP 0).trans rfl
 have hd : Aside0 (decide ((0 : Int) ≤ (tp : Int) ∧ (tp : Int) ≤ (t : Int) - 1) = true) := ⟨decide_eq_true ⟨by omega, by omega⟩⟩
 have wt : wrap64 ((t : Int) - 1) = (t : Int) - 1 := by unfold wrap64; omega
 go_enter Tryd.func175, Tryd.ntmps175
 go_wp2_with (go_at_call 123; go_loud (
    with_reducible refine (in_impl (tp : Int) 0 ((t : Int) - 1) _).mono ?_
    rintro e w2 ⟨he, hb2⟩
    rw [hd.out] at he
    subst he
    have hB2 := below_step hb1 hb2))
 go_ret
 exact ⟨rfl, hB2⟩
set_option maxHeartbeats 2000000 in
theorem tape_ok (t tp : Nat) (ht : t < 4) (ht2 : 2 ≤ t) (htp : tp < t) (s : Int) (A2 : Option Addr) (c2 : Nat) (a : List Bool) (A3 : Option Addr) (c3 : Nat) (b : List (List Int)) (w : World) (hA : Arg w A2 c2 a A3 c3 b) (hS : Small a b) (hok : okR (t : Int) s a b = true) :
  Calls Tryd.prog 155 #[.agg #[.int .i64 (t : Int), .int .i64 s, .slice A2 a.length c2, .slice A3 b.length c3], .int .i64 (tp : Int)] w fun e w' => e = .returned (.int .i64 0) ∧ Below w.heap.size w w' := by
 have hP := blk_new w (.cells #[.int .i64 (t : Int), .int .i64 s, .slice A2 a.length c2, .slice A3 b.length c3] 29)
 have hb1 := below_alloc (Below.refl w.heap.size w) (.cells #[.int .i64 (t : Int), .int .i64 s, .slice A2 a.length c2, .slice A3 b.length c3] 29)
 have m0 : (w.alloc (.cells #[.int .i64 (t : Int), .int .i64 s, .slice A2 a.length c2, .slice A3 b.length c3] 29)).cell? ⟨w.heap.size, 0, none⟩ = some (.int .i64 (t : Int)) := (blk_cell hP 0).trans rfl
 have m1 : (w.alloc (.cells #[.int .i64 (t : Int), .int .i64 s, .slice A2 a.length c2, .slice A3 b.length c3] 29)).cell? ⟨w.heap.size, 1, none⟩ = some (.int .i64 s) := (blk_cell hP 1).trans rfl
 have m2 : (w.alloc (.cells #[.int .i64 (t : Int), .int .i64 s, .slice A2 a.length c2, .slice A3 b.length c3] 29)).cell? ⟨w.heap.size, 2, none⟩ = some (.slice A2 a.length c2) := (blk_cell hP 2).trans rfl
 have m3 : (w.alloc (.cells #[.int .i64 (t : Int), .int .i64 s, .slice A2 a.length c2, .slice A3 b.length c3] 29)).cell? ⟨w.heap.size, 3, none⟩ = some (.slice A3 b.length c3) := (blk_cell hP 3).trans rfl
 have hn1 : ((t : Int) = 1) = False := eq_false (by omega)
 have hn2 : ((t : Int) == 1) = false := by simp <;> omega
 have hokq := Aside0.mk hok
 clear hok
 go_enter Tryd.func155, Tryd.ntmps155
 go_wp2_with (first
  | (go_at_call 90; go_loud (
    have q := valid (t : Int) s A2 c2 a A3 c3 b _ (hA.below hb1).r3 hA.l3 hS.la hS.lb hS.lr
    rw [hokq.out] at q
    with_reducible refine q.mono ?_
    rintro e w2 ⟨rfl, hb2⟩
    have hB2 := below_step hb1 hb2
    have hP2 := blk_below hP hb2
    have n0 : w2.cell? ⟨w.heap.size, 0, none⟩ = some (.int .i64 (t : Int)) := (blk_cell hP2 0).trans rfl
    have n1 : w2.cell? ⟨w.heap.size, 1, none⟩ = some (.int .i64 s) := (blk_cell hP2 1).trans rfl
    have n2 : w2.cell? ⟨w.heap.size, 2, none⟩ = some (.slice A2 a.length c2) := (blk_cell hP2 2).trans rfl
    have n3 : w2.cell? ⟨w.heap.size, 3, none⟩ = some (.slice A3 b.length c3) := (blk_cell hP2 3).trans rfl))
  | (go_at_call 175; go_loud (
    with_reducible refine (isTape t tp htp ht s A2 c2 a A3 c3 b _).mono ?_
    rintro e w3 ⟨rfl, hb3⟩
    have hB3 := below_step hB2 hb3
    have o0 : w3.cell? ⟨w.heap.size, 0, none⟩ = some (.int .i64 (t : Int)) := (blk_cell (blk_below hP2 hb3) 0).trans rfl)))
 go_ret
 exact ⟨rfl, hB3⟩
theorem pad_in {t u tp d : Nat} (hu : u + 1 = t) (ht : t < 4) (htp : tp < t) (hd : d < 2) : colN' u tp d = colT t tp (wdOf (t - 1)) d ∧ colT t tp (wdOf (t - 1)) d < wdOf t := by
 have h := fin_pad2 t ht tp htp d hd
 have e : t - 1 = u := by omega
 refine ⟨?_, h.1⟩
 unfold colN' colT
 rw [h.2, e]
set_option maxHeartbeats 8000000 in
theorem someOn_impl (t tp : Nat) (ht : t < 4) (ht2 : 2 ≤ t) (htp : tp < t) (s : Int) (A2 : Option Addr) (c2 : Nat) (a : List Bool) (A3 : Option Addr) (c3 : Nat) (b : List (List Int)) (w : World) (hA : Arg w A2 c2 a A3 c3 b) (hS : Small a b) (hok : okR (t : Int) s a b = true) (hG : Glob w) :
  Calls Tryd.prog 106 #[.agg #[.int .i64 (t : Int), .int .i64 s, .slice A2 a.length c2, .slice A3 b.length c3], .int .i64 (tp : Int)] w (Gives (someR t tp (tidM t s a b).1 (tidM t s a b).2) w) := by
 have hP := blk_alloc (blk_new w (.cells #[.int .i64 (t : Int), .int .i64 s, .slice A2 a.length c2, .slice A3 b.length c3] 29)) (.cells #[.int .i64 0, .int .i64 0, .slice none 0 0, .slice none 0 0] 29)
 have hb1 := below_alloc (below_alloc (Below.refl w.heap.size w) (.cells #[.int .i64 (t : Int), .int .i64 s, .slice A2 a.length c2, .slice A3 b.length c3] 29)) (.cells #[.int .i64 0, .int .i64 0, .slice none 0 0, .slice none 0 0] 29)
 have hZ : ((w.alloc (.cells #[.int .i64 (t : Int), .int .i64 s, .slice A2 a.length c2, .slice A3 b.length c3] 29)).alloc (.cells #[.int .i64 0, .int .i64 0, .slice none 0 0, .slice none 0 0] 29)).heap[w.heap.size + 1]? = some (.cells #[.int .i64 0, .int .i64 0, .slice none 0 0, .slice none 0 0] 29 (0, 0)) := blk_at _ _ _ (by simp)
 have hf := Aside0.mk (fun W (h : Below w.heap.size w W) => tape_ok t tp ht ht2 htp s A2 c2 a A3 c3 b W (hA.below h) hS hok)
 have hokM := ok_tidy hok
 obtain ⟨hc, hr0, hr8⟩ := tid_good (t := t) (s := s.toNat) (accs := a) (rows := b.map nats) ht (by have := (okM_ok hokM).s1; simpa using this) (by have := (okM_ok hokM).cl; simpa using this)
 have hbn : b.length ≤ 100000 := hokM.2.2.2.1
 have htid : Aside0 (impl_tidyOf.f (t : Int) s a b = some ((t : Int), 0, (tidM t s a b).1, (tidM t s a b).2.map ints)) := ⟨by
  unfold impl_tidyOf.f tidF
  rw [if_pos hokM]⟩
 obtain ⟨M, hM⟩ : ∃ M, tidM t s a b = M := ⟨_, rfl⟩
 have hM' : tidL (wdOf t) (b.map nats) a s.toNat (padT t) = M := by rw [← hM]; unfold tidM; rw [Int.toNat_natCast]
 rw [hM'] at hc hr0 hr8
 rw [hM] at htid ⊢
 rw [List.length_map] at hr8
 have hrn : M.2.length ≤ 1000000 := by omega
 have hclq := Aside0.mk hc
 have hGq := Aside0.mk hG
 obtain ⟨u, hu⟩ : ∃ u, u + 1 = t := ⟨t - 1, by omega⟩
 have hu1 : t - 1 = u := by omega
 have huq := Aside0.mk hu
 obtain ⟨R, hR⟩ : ∃ R, Aside0 (bfs id (nextS M.2 (colT t tp)) (List.range (wdOf u)) 1000 1002 0 [startS M.2.length] [] = some R ∧ meet M.2 (colT t tp) (wdOf u) 1000 (startS M.2.length) = R) := by
  rcases meet_some (rows := M.2) (col := colT t tp) (wd := wdOf u) (limit := 1000) (start := startS M.2.length) (by decide) with ⟨x, h1, h2⟩ | ⟨h1, h2⟩
  ·exact ⟨some x, ⟨h1, h2⟩⟩
  ·exact ⟨none, ⟨h1, h2⟩⟩
 have hsomeR : Aside0 (someR t tp M.1 M.2 = match (generalizing := false) R with
  | some (l, rws) => toldR (u : Int) (tidL (wdOf u) rws (l.map (accS M.2 M.1 (colT t tp (wdOf (t - 1)) 0) (colT t tp (wdOf (t - 1)) 1))) 0 (padT u)).1 ((tidL (wdOf u) rws (l.map (accS M.2 M.1 (colT t tp (wdOf (t - 1)) 0) (colT t tp (wdOf (t - 1)) 1))) 0 (padT u)).2.map ints)
  | none => bad 3) := ⟨by unfold someR; rw [hu1, hR.out.2]; cases R <;> rfl⟩
 obtain ⟨RR, hRR⟩ : ∃ RR, Aside0 (someR t tp M.1 M.2 = RR) := ⟨_, ⟨rfl⟩⟩
 rw [hRR.out]
 have hp0 := pad_in hu ht htp (d := 0) (by decide)
 have hp1 := pad_in hu ht htp (d := 1) (by decide)
 obtain ⟨p0, hq0⟩ : ∃ p, colT t tp (wdOf (t - 1)) 0 = p := ⟨_, rfl⟩
 obtain ⟨p1, hq1⟩ : ∃ p, colT t tp (wdOf (t - 1)) 1 = p := ⟨_, rfl⟩
 rw [hq0] at hp0 hsomeR
 rw [hq1] at hp1 hsomeR
 have hp0q := Aside0.mk hp0
 have hp1q := Aside0.mk hp1
 have hu4 : u < 4 := by omega
 have hu0 : 0 < u := by omega
 have hsome : Aside0 (∀ (W : World) AA ca AN cn, Kd.C Kd.bool W AA M.1.length M.1 → Kd.C (Kd.slice 3 (Kd.int .i64)) W AN M.2.length (M.2.map ints) → M.1.length ≤ ca → M.2.length ≤ cn →
   Calls Tryd.prog 156 #[.agg #[.int .i64 (t : Int), .int .i64 0, .slice AA M.1.length ca, .slice AN M.2.length cn], .int .i64 (tp : Int)] W (So.SomeG u M.2 M.1 p0 p1 W R)) := ⟨fun W AA ca AN cn h1 h2 h3 h4 => by
  have q := So.some_ u tp 0 (by omega) (by omega) (by omega) M.1 M.2 (wdOf t) (wdOf u) (by have := wd_le u hu4; omega) hclq.out hrn hr0 (digs u) (fun c _ => digs_len _ _) (fun c _ => digs_lt _ _)
   (fun W c hc => (PB1.impl_digitsOf.calls 10 _ _ _ W (fin_digs _ hu4 c (by have := wd_le _ hu4; omega))).mono (fun e W' hh => by obtain ⟨v, x1, x2, x3⟩ := hh; exact ⟨v, x1, x2, x3⟩))
   (fun W => (PB1.impl_widthOf.calls 10 _ _ W (fin_wide _ hu4).1).mono (fun e W' hh => ⟨hh.1, hh.2.below⟩))
   (colT t tp) (fun c hc d hd => ⟨by unfold colT; rw [show t - 1 = u by omega], fin_col t ht tp htp c (by rw [show t - 1 = u by omega]; exact hc) d hd⟩) p0 p1 hp0q.out.1 hp1q.out.1 hp0q.out.2 hp1q.out.2 W AA ca AN cn h1 h2 h3 h4 1002 R hR.out.1
  rw [huq.out] at q
  exact q⟩
 have hrow2 : Aside0 (∀ l rws, R = some (l, rws) → Closed (wdOf u) rws (l.map (accS M.2 M.1 p0 p1)) ∧ 0 < rws.length ∧ rws.length ≤ 1000) := ⟨fun l rws h => by
  have hb := hR.out.1
  rw [h] at hb
  exact meet_closed hb _⟩
 clear hok hokM hM hM' hR hq0 hq1 hp0 hp1 hc hu hu1 hG
 go_enter Tryd.func106, Tryd.ntmps106
 have m0 : ((w.alloc (.cells #[.int .i64 (t : Int), .int .i64 s, .slice A2 a.length c2, .slice A3 b.length c3] 29)).alloc (.cells #[.int .i64 0, .int .i64 0, .slice none 0 0, .slice none 0 0] 29)).cell? ⟨w.heap.size, 0, none⟩ = some (.int .i64 (t : Int)) := (blk_cell hP 0).trans rfl
 have m1 : ((w.alloc (.cells #[.int .i64 (t : Int), .int .i64 s, .slice A2 a.length c2, .slice A3 b.length c3] 29)).alloc (.cells #[.int .i64 0, .int .i64 0, .slice none 0 0, .slice none 0 0] 29)).cell? ⟨w.heap.size, 1, none⟩ = some (.int .i64 s) := (blk_cell hP 1).trans rfl
 have m2 : ((w.alloc (.cells #[.int .i64 (t : Int), .int .i64 s, .slice A2 a.length c2, .slice A3 b.length c3] 29)).alloc (.cells #[.int .i64 0, .int .i64 0, .slice none 0 0, .slice none 0 0] 29)).cell? ⟨w.heap.size, 2, none⟩ = some (.slice A2 a.length c2) := (blk_cell hP 2).trans rfl
 have m3 : ((w.alloc (.cells #[.int .i64 (t : Int), .int .i64 s, .slice A2 a.length c2, .slice A3 b.length c3] 29)).alloc (.cells #[.int .i64 0, .int .i64 0, .slice none 0 0, .slice none 0 0] 29)).cell? ⟨w.heap.size, 3, none⟩ = some (.slice A3 b.length c3) := (blk_cell hP 3).trans rfl
 cases R with
 | none =>
  have hRb : RR = bad 3 := by rw [← hRR.out, hsomeR.out]
  subst hRb
  go_wp2_with (first
   | (go_at_call 155; go_loud (
     with_reducible refine (hf.out _ hb1).mono ?_
     rintro e w2 ⟨rfl, hb2⟩
     have hP2 := blk_below hP hb2
     have hB2 := below_step hb1 hb2
     have n0 : w2.cell? ⟨w.heap.size, 0, none⟩ = some (.int .i64 (t : Int)) := (blk_cell hP2 0).trans rfl
     have n1 : w2.cell? ⟨w.heap.size, 1, none⟩ = some (.int .i64 s) := (blk_cell hP2 1).trans rfl
     have n2 : w2.cell? ⟨w.heap.size, 2, none⟩ = some (.slice A2 a.length c2) := (blk_cell hP2 2).trans rfl
     have n3 : w2.cell? ⟨w.heap.size, 3, none⟩ = some (.slice A3 b.length c3) := (blk_cell hP2 3).trans rfl
     have hA2 := hA.below hB2))
   | (go_at_call 53; go_loud (
     with_reducible refine (impl_tidyOf.calls (t : Int) s A2 c2 a A3 c3 b _ _ _ _ _ hA2.r2 hA2.l2 hA2.r3 hA2.l3 (glob_below hGq.out hB2) htid.out).mono ?_
     rintro e w3 ⟨v2, v3, rfl, q2, q3, hb3⟩
     obtain ⟨B2, d2, e2, hd2, hC2⟩ := Kd.R_reads q2
     subst e2
     obtain ⟨B3, d3, e3, hd3, hC3⟩ := Kd.N_reads q3
     rw [List.length_map] at e3 hd3 hC3
     subst e3
     have hB3 := below_step hB2 hb3))
   | (go_at_call 156; go_loud (
     have q := hsome.out w3 B2 d2 B3 d3 hC2 hC3 hd2 hd3
     with_reducible refine q.mono ?_
     rintro e w4 ⟨hb4, rfl⟩
     have b0 := blk_below (blk_below (blk_below (blk_below hZ hb2) hb3) hb4) (below_alloc (Below.refl _ _) (.cells #[.int .i64 0, .int .i64 0, .slice none 0 0, .slice none 0 0] 77))
     have hB4 := below_alloc (below_step hB3 hb4) (.cells #[.int .i64 0, .int .i64 0, .slice none 0 0, .slice none 0 0] 77)
     have e0 : (w4.alloc (.cells #[.int .i64 0, .int .i64 0, .slice none 0 0, .slice none 0 0] 77)).cell? ⟨w.heap.size + 1, 0, none⟩ = some (.int .i64 0) := (blk_cell b0 0).trans rfl
     have f0 : (w4.alloc (.cells #[.int .i64 0, .int .i64 0, .slice none 0 0, .slice none 0 0] 77)).frozen? ⟨w.heap.size + 1, 0, none⟩ = false := blk_frozen b0 0
     have e1 : (w4.alloc (.cells #[.int .i64 0, .int .i64 0, .slice none 0 0, .slice none 0 0] 77)).cell? ⟨w.heap.size + 1, 1, none⟩ = some (.int .i64 0) := (blk_cell b0 1).trans rfl
     have f1 : (w4.alloc (.cells #[.int .i64 0, .int .i64 0, .slice none 0 0, .slice none 0 0] 77)).frozen? ⟨w.heap.size + 1, 1, none⟩ = false := blk_frozen b0 1
     have e2 : (w4.alloc (.cells #[.int .i64 0, .int .i64 0, .slice none 0 0, .slice none 0 0] 77)).cell? ⟨w.heap.size + 1, 2, none⟩ = some (.slice none 0 0) := (blk_cell b0 2).trans rfl
     have f2 : (w4.alloc (.cells #[.int .i64 0, .int .i64 0, .slice none 0 0, .slice none 0 0] 77)).frozen? ⟨w.heap.size + 1, 2, none⟩ = false := blk_frozen b0 2
     have e3 : (w4.alloc (.cells #[.int .i64 0, .int .i64 0, .slice none 0 0, .slice none 0 0] 77)).cell? ⟨w.heap.size + 1, 3, none⟩ = some (.slice none 0 0) := (blk_cell b0 3).trans rfl
     have f3 : (w4.alloc (.cells #[.int .i64 0, .int .i64 0, .slice none 0 0, .slice none 0 0] 77)).frozen? ⟨w.heap.size + 1, 3, none⟩ = false := blk_frozen b0 3)))
  have b1 := blk_put b0 0 (.int .i64 0) rfl
  have b2 := blk_put b1 1 (.int .i64 0) rfl
  have b3 := blk_put b2 2 (.slice none 0 0) rfl
  have b4 := blk_put b3 3 (.slice none 0 0) rfl
  refine bodyPost_ret (results_ct rfl _ _ (w.heap.size + 1) 29 #[.int .i64 0, .int .i64 0, .slice none 0 0, .slice none 0 0] (0, 0) _ rfl b4 Tryd.underlying29 rfl (by kernel_rfl)) rfl (gives_bad rfl ?_)
  exact (((hB4.setCell (by simp) _).setCell (by simp) _).setCell (by simp) _).setCell (by simp) _
 | some x =>
  obtain ⟨l, rws⟩ := x
  obtain ⟨hc1, hc2, hc3⟩ := hrow2.out l rws rfl
  have hRe := hsomeR.out
  rw [hRR.out] at hRe
  obtain ⟨ac, hac⟩ : ∃ ac, l.map (accS M.2 M.1 p0 p1) = ac := ⟨_, rfl⟩
  have hacq := Aside0.mk hac
  simp only [hac] at hRe
  rw [hac] at hc1
  have hal : ac.length = rws.length := hc1.len.symm
  have hRq := Aside0.mk hRe
  have hcq := Aside0.mk hc1
  have halq := Aside0.mk hal
  clear hRe hac hc1 hal
  go_wp2_with (first
   | (go_at_call 155; go_loud (
     with_reducible refine (hf.out _ hb1).mono ?_
     rintro e w2 ⟨rfl, hb2⟩
     have hP2 := blk_below hP hb2
     have hB2 := below_step hb1 hb2
     have n0 : w2.cell? ⟨w.heap.size, 0, none⟩ = some (.int .i64 (t : Int)) := (blk_cell hP2 0).trans rfl
     have n1 : w2.cell? ⟨w.heap.size, 1, none⟩ = some (.int .i64 s) := (blk_cell hP2 1).trans rfl
     have n2 : w2.cell? ⟨w.heap.size, 2, none⟩ = some (.slice A2 a.length c2) := (blk_cell hP2 2).trans rfl
     have n3 : w2.cell? ⟨w.heap.size, 3, none⟩ = some (.slice A3 b.length c3) := (blk_cell hP2 3).trans rfl
     have hA2 := hA.below hB2))
   | (go_at_call 53; go_loud (
     with_reducible refine (impl_tidyOf.calls (t : Int) s A2 c2 a A3 c3 b _ _ _ _ _ hA2.r2 hA2.l2 hA2.r3 hA2.l3 (glob_below hGq.out hB2) htid.out).mono ?_
     rintro e w3 ⟨v2, v3, rfl, q2, q3, hb3⟩
     obtain ⟨B2, d2, e2, hd2, hC2⟩ := Kd.R_reads q2
     subst e2
     obtain ⟨B3, d3, e3, hd3, hC3⟩ := Kd.N_reads q3
     rw [List.length_map] at e3 hd3 hC3
     subst e3
     have hB3 := below_step hB2 hb3))
   | (go_at_call 156; go_loud (
     have q := hsome.out w3 B2 d2 B3 d3 hC2 hC3 hd2 hd3
     with_reducible refine q.mono ?_
     rintro e w4 ⟨hb4, vA, vN, rfl, rA, rN⟩
     rw [hacq.out] at rA
     obtain ⟨A5, c5, e5, hc5, hC5⟩ := Kd.R_reads rA
     obtain ⟨A6, c6, e6, hc6, hC6⟩ := Kd.R_reads rN
     rw [List.length_map] at e6 hc6 hC6
     subst e5 e6
     have hB4 := below_step hB3 hb4
     have bM := blk_new w4 (.cells #[.int .i64 (u : Int), .int .i64 0, .slice A5 ac.length c5, .slice A6 rws.length c6] 77)
     have hbm := below_alloc (Below.refl w4.heap.size w4) (.cells #[.int .i64 (u : Int), .int .i64 0, .slice A5 ac.length c5, .slice A6 rws.length c6] 77)
     have r0 : (w4.alloc (.cells #[.int .i64 (u : Int), .int .i64 0, .slice A5 ac.length c5, .slice A6 rws.length c6] 77)).cell? ⟨w4.heap.size, 0, none⟩ = some (.int .i64 (u : Int)) := (blk_cell bM 0).trans rfl
     have r1 : (w4.alloc (.cells #[.int .i64 (u : Int), .int .i64 0, .slice A5 ac.length c5, .slice A6 rws.length c6] 77)).cell? ⟨w4.heap.size, 1, none⟩ = some (.int .i64 0) := (blk_cell bM 1).trans rfl
     have r2 : (w4.alloc (.cells #[.int .i64 (u : Int), .int .i64 0, .slice A5 ac.length c5, .slice A6 rws.length c6] 77)).cell? ⟨w4.heap.size, 2, none⟩ = some (.slice A5 ac.length c5) := (blk_cell bM 2).trans rfl
     have r3 : (w4.alloc (.cells #[.int .i64 (u : Int), .int .i64 0, .slice A5 ac.length c5, .slice A6 rws.length c6] 77)).cell? ⟨w4.heap.size, 3, none⟩ = some (.slice A6 rws.length c6) := (blk_cell bM 3).trans rfl
     have hB5 := below_step hB4 hbm
     clear rA rN))
   | (go_at_call 70; go_loud (
     have q := tidied u 0 ac rws hu0 hu4 hc2 hcq.out (by omega) _ (glob_below hGq.out hB5) A5 c5 A6 c6 (Kd.C_below hC5 hbm) (Kd.C_below hC6 hbm) hc5 hc6
     rw [← hRq.out, show ((0 : Nat) : Int) = 0 from rfl] at q
     with_reducible refine q.mono ?_
     rintro e w6 ⟨F2, y2, F3, y3, rfl, hRy, hb6⟩
     have hB6 := below_step hB5 hb6
     have b0 := blk_below (blk_below (blk_below (blk_below (blk_below hZ hb2) hb3) hb4) hbm) hb6
     have e0 : w6.cell? ⟨w.heap.size + 1, 0, none⟩ = some (.int .i64 0) := (blk_cell b0 0).trans rfl
     have f0 : w6.frozen? ⟨w.heap.size + 1, 0, none⟩ = false := blk_frozen b0 0
     have e1 : w6.cell? ⟨w.heap.size + 1, 1, none⟩ = some (.int .i64 0) := (blk_cell b0 1).trans rfl
     have f1 : w6.frozen? ⟨w.heap.size + 1, 1, none⟩ = false := blk_frozen b0 1
     have e2 : w6.cell? ⟨w.heap.size + 1, 2, none⟩ = some (.slice none 0 0) := (blk_cell b0 2).trans rfl
     have f2 : w6.frozen? ⟨w.heap.size + 1, 2, none⟩ = false := blk_frozen b0 2
     have e3 : w6.cell? ⟨w.heap.size + 1, 3, none⟩ = some (.slice none 0 0) := (blk_cell b0 3).trans rfl
     have f3 : w6.frozen? ⟨w.heap.size + 1, 3, none⟩ = false := blk_frozen b0 3)))
  have b1 := blk_put b0 0 (.int .i64 RR.t) rfl
  have b2 := blk_put b1 1 (.int .i64 RR.s) rfl
  have b3 := blk_put b2 2 (.slice F2 RR.a.length y2) rfl
  have b4 := blk_put b3 3 (.slice F3 RR.b.length y3) rfl
  refine bodyPost_ret (results_ct rfl _ _ (w.heap.size + 1) 29 #[.int .i64 RR.t, .int .i64 RR.s, .slice F2 RR.a.length y2, .slice F3 RR.b.length y3] (0, 0) _ rfl b4 Tryd.underlying29 rfl (by kernel_rfl)) rfl ⟨F2, y2, F3, y3, rfl, ⟨?_, ?_⟩, ?_⟩
  ·have hR2 := hRy.r2
   exact Kd.R_lower (Kd.R_set (Kd.R_set (Kd.R_set (Kd.R_set hR2 b0 (by decide) 0 _) b1 (by decide) 1 _) b2 (by decide) 2 _) b3 (by decide) 3 _) (Below.size hB5)
  ·have hR3 := hRy.r3
   exact Kd.S_lower (Kd.S_set (Kd.S_set (Kd.S_set (Kd.S_set hR3 b0 (by decide) 0 _) b1 (by decide) 1 _) b2 (by decide) 2 _) b3 (by decide) 3 _) (Below.size hB5)
  ·exact (((hB6.setCell (by simp) _).setCell (by simp) _).setCell (by simp) _).setCell (by simp) _
end Go.Proofs.YtbamnonamdpooaaDoor.In
namespace Go.Proofs.YtbamnonamdpooaaDoor.In
set_option linter.unusedVariables false
set_option linter.unusedSimpArgs false
open Go.RowKit Go.Proofs.YtbamnonamdpooaaDoorW.PrintWords Go.Proofs.YtbamnonamdpooaaDoorW.PrintLast Go.Proofs.YtbamnonamdpooaaDoorW.PrintMore Kp Mg Mk Tdy Tf Tid Ti Tr Lr Sm Sq
theorem two_ok {t s : Int} {a : List Bool} {b : List (List Int)} (h : twoC t s a b = 0) : okR t s a b = true ∧ t = 2 := by
 unfold twoC at h
 by_cases h1 : okR t s a b = true
 ·rw [if_pos h1] at h
  by_cases h2 : t = 2
  ·exact ⟨h1, h2⟩
  ·rw [if_neg h2] at h; cases h
 ·rw [if_neg h1] at h; cases h
/-- What InputsIn and OutputsIn give (the tape that is taken away). -/
noncomputable def inR (tp : Nat) (t s : Int) (a : List Bool) (b : List (List Int)) : RRes := if twoC t s a b = 0 then someR 2 tp (tidM 2 s a b).1 (tidM 2 s a b).2 else bad (twoC t s a b)
set_option maxHeartbeats 4000000 in
theorem spec_OutputsIn (t : Int) (s : Int) (A2 : Option Addr) (c2 : Nat) (a : List Bool) (A3 : Option Addr) (c3 : Nat) (b : List (List Int)) (w : World) (hA : Arg w A2 c2 a A3 c3 b) (hS : Small a b) :
  Calls Tryd.prog 43 #[.agg #[.int .i64 t, .int .i64 s, .slice A2 a.length c2, .slice A3 b.length c3]] w (Gives (inR 0 t s a b) w) := by
 have hP := blk_alloc (blk_new w (.cells #[.int .i64 t, .int .i64 s, .slice A2 a.length c2, .slice A3 b.length c3] 29)) (.cells #[.int .i64 0, .int .i64 0, .slice none 0 0, .slice none 0 0] 29)
 have hb1 := below_alloc (below_alloc (Below.refl w.heap.size w) (.cells #[.int .i64 t, .int .i64 s, .slice A2 a.length c2, .slice A3 b.length c3] 29)) (.cells #[.int .i64 0, .int .i64 0, .slice none 0 0, .slice none 0 0] 29)
 have hZ : ((w.alloc (.cells #[.int .i64 t, .int .i64 s, .slice A2 a.length c2, .slice A3 b.length c3] 29)).alloc (.cells #[.int .i64 0, .int .i64 0, .slice none 0 0, .slice none 0 0] 29)).heap[w.heap.size + 1]? = some (.cells #[.int .i64 0, .int .i64 0, .slice none 0 0, .slice none 0 0] 29 (0, 0)) := blk_at _ _ _ (by simp)
 have htwo := Aside0.mk (two_spec w.heap.size t s A2 c2 a A3 c3 b _ hP (hA.below hb1) hS)
 by_cases h0 : twoC t s a b = 0
 ·obtain ⟨hok, ht2⟩ := two_ok h0
  have e : inR 0 t s a b = someR 2 0 (tidM 2 s a b).1 (tidM 2 s a b).2 := if_pos h0
  obtain ⟨RR, hRR⟩ : ∃ RR, someR 2 0 (tidM 2 s a b).1 (tidM 2 s a b).2 = RR := ⟨_, rfl⟩
  have hq : Aside0 (∀ W, Below w.heap.size w W → Calls Tryd.prog 105 #[.agg #[.int .i64 2, .int .i64 s, .slice A2 a.length c2, .slice A3 b.length c3], .int .i64 0] W (Gives RR W)) := ⟨fun W h => by
   rw [← hRR]
   exact someOn_spec 2 0 (by decide) (by decide) (by decide) s A2 c2 a A3 c3 b W (hA.below h) hS (by rw [ht2] at hok; exact hok)⟩
  rw [e, hRR]
  have hRq := Aside0.mk hRR
  have h0' := Aside0.mk h0
  have ht2q := Aside0.mk ht2
  clear e h0 ht2 hok hRR
  go_enter Tryd.func43, Tryd.ntmps43
  go_wp2_with (first
   | (go_at_call 47; go_loud (
     with_reducible refine htwo.out.mono ?_
     rintro e w2 ⟨he, hb2⟩
     rw [h0'.out] at he
     subst he
     have hP2 := blk_below hP hb2
     have hB2 := below_step hb1 hb2
     have n0 : w2.cell? ⟨w.heap.size, 0, none⟩ = some (.int .i64 t) := (blk_cell hP2 0).trans rfl
     have n1 : w2.cell? ⟨w.heap.size, 1, none⟩ = some (.int .i64 s) := (blk_cell hP2 1).trans rfl
     have n2 : w2.cell? ⟨w.heap.size, 2, none⟩ = some (.slice A2 a.length c2) := (blk_cell hP2 2).trans rfl
     have n3 : w2.cell? ⟨w.heap.size, 3, none⟩ = some (.slice A3 b.length c3) := (blk_cell hP2 3).trans rfl))
   | (go_at_call 105; go_loud (
     have q := hq.out w2 hB2
     simp only [ht2q.out]
     with_reducible refine q.mono ?_
     rintro e w3 ⟨F2, y2, F3, y3, rfl, hRy, hb3⟩
     have hB3 := below_step hB2 hb3
     have b0 := blk_below (blk_below hZ hb2) hb3
     have e0 : w3.cell? ⟨w.heap.size + 1, 0, none⟩ = some (.int .i64 0) := (blk_cell b0 0).trans rfl
     have f0 : w3.frozen? ⟨w.heap.size + 1, 0, none⟩ = false := blk_frozen b0 0
     have e1 : w3.cell? ⟨w.heap.size + 1, 1, none⟩ = some (.int .i64 0) := (blk_cell b0 1).trans rfl
     have f1 : w3.frozen? ⟨w.heap.size + 1, 1, none⟩ = false := blk_frozen b0 1
     have e2 : w3.cell? ⟨w.heap.size + 1, 2, none⟩ = some (.slice none 0 0) := (blk_cell b0 2).trans rfl
     have f2 : w3.frozen? ⟨w.heap.size + 1, 2, none⟩ = false := blk_frozen b0 2
     have e3 : w3.cell? ⟨w.heap.size + 1, 3, none⟩ = some (.slice none 0 0) := (blk_cell b0 3).trans rfl
     have f3 : w3.frozen? ⟨w.heap.size + 1, 3, none⟩ = false := blk_frozen b0 3)))
  have b1 := blk_put b0 0 (.int .i64 RR.t) rfl
  have b2 := blk_put b1 1 (.int .i64 RR.s) rfl
  have b3 := blk_put b2 2 (.slice F2 RR.a.length y2) rfl
  have b4 := blk_put b3 3 (.slice F3 RR.b.length y3) rfl
  refine bodyPost_ret (results_ct rfl _ _ (w.heap.size + 1) 29 #[.int .i64 RR.t, .int .i64 RR.s, .slice F2 RR.a.length y2, .slice F3 RR.b.length y3] (0, 0) _ rfl b4 Tryd.underlying29 rfl (by kernel_rfl)) rfl ⟨F2, y2, F3, y3, rfl, ⟨?_, ?_⟩, ?_⟩
  ·have hR2 := hRy.r2
   exact Kd.R_lower (Kd.R_set (Kd.R_set (Kd.R_set (Kd.R_set hR2 b0 (by decide) 0 _) b1 (by decide) 1 _) b2 (by decide) 2 _) b3 (by decide) 3 _) (Below.size hB2)
  ·have hR3 := hRy.r3
   exact Kd.S_lower (Kd.S_set (Kd.S_set (Kd.S_set (Kd.S_set hR3 b0 (by decide) 0 _) b1 (by decide) 1 _) b2 (by decide) 2 _) b3 (by decide) 3 _) (Below.size hB2)
  ·exact (((hB3.setCell (by simp) _).setCell (by simp) _).setCell (by simp) _).setCell (by simp) _
 ·have e : inR 0 t s a b = bad (twoC t s a b) := if_neg h0
  rw [e]
  have x1 : (twoC t s a b == 0) = false := beq_eq_false_iff_ne.mpr h0
  have x2 : (twoC t s a b != 0) = true := bne_iff_ne.mpr h0
  have x3 : (twoC t s a b = 0) = False := eq_false h0
  clear e h0
  go_enter Tryd.func43, Tryd.ntmps43
  go_wp2_with (go_at_call 47; go_loud (
     with_reducible refine htwo.out.mono ?_
     rintro e w2 ⟨rfl, hb2⟩
     have hB2 := below_step hb1 hb2
     have b0 := blk_below hZ hb2
     have e0 : w2.cell? ⟨w.heap.size + 1, 0, none⟩ = some (.int .i64 0) := (blk_cell b0 0).trans rfl
     have f0 : w2.frozen? ⟨w.heap.size + 1, 0, none⟩ = false := blk_frozen b0 0
     have e1 : w2.cell? ⟨w.heap.size + 1, 1, none⟩ = some (.int .i64 0) := (blk_cell b0 1).trans rfl
     have f1 : w2.frozen? ⟨w.heap.size + 1, 1, none⟩ = false := blk_frozen b0 1
     have e2 : w2.cell? ⟨w.heap.size + 1, 2, none⟩ = some (.slice none 0 0) := (blk_cell b0 2).trans rfl
     have f2 : w2.frozen? ⟨w.heap.size + 1, 2, none⟩ = false := blk_frozen b0 2
     have e3 : w2.cell? ⟨w.heap.size + 1, 3, none⟩ = some (.slice none 0 0) := (blk_cell b0 3).trans rfl
     have f3 : w2.frozen? ⟨w.heap.size + 1, 3, none⟩ = false := blk_frozen b0 3))
  have b1 := blk_put b0 0 (.int .i64 0) rfl
  have b2 := blk_put b1 1 (.int .i64 0) rfl
  have b3 := blk_put b2 2 (.slice none 0 0) rfl
  have b4 := blk_put b3 3 (.slice none 0 0) rfl
  refine bodyPost_ret (results_ct rfl _ _ (w.heap.size + 1) 29 #[.int .i64 0, .int .i64 0, .slice none 0 0, .slice none 0 0] (0, 0) _ rfl b4 Tryd.underlying29 rfl (by kernel_rfl)) rfl (gives_bad rfl ?_)
  exact (((hB2.setCell (by simp) _).setCell (by simp) _).setCell (by simp) _).setCell (by simp) _
set_option maxHeartbeats 4000000 in
theorem impl_OutputsIn (t : Int) (s : Int) (A2 : Option Addr) (c2 : Nat) (a : List Bool) (A3 : Option Addr) (c3 : Nat) (b : List (List Int)) (w : World) (hA : Arg w A2 c2 a A3 c3 b) (hS : Small a b) (hG : Glob w) :
  Calls Tryd.prog 44 #[.agg #[.int .i64 t, .int .i64 s, .slice A2 a.length c2, .slice A3 b.length c3]] w (Gives (inR 0 t s a b) w) := by
 have hP0 := blk_alloc (blk_new w (.cells #[.int .i64 t, .int .i64 s, .slice A2 a.length c2, .slice A3 b.length c3] 29)) (.cells #[.int .i64 0, .int .i64 0, .slice none 0 0, .slice none 0 0] 29)
 have hb0 := below_alloc (below_alloc (Below.refl w.heap.size w) (.cells #[.int .i64 t, .int .i64 s, .slice A2 a.length c2, .slice A3 b.length c3] 29)) (.cells #[.int .i64 0, .int .i64 0, .slice none 0 0, .slice none 0 0] 29)
 have hb1 := below_alloc hb0 (.cells #[.int .i64 t, .int .i64 s, .slice A2 a.length c2, .slice A3 b.length c3] 29)
 have hP := blk_alloc hP0 (.cells #[.int .i64 t, .int .i64 s, .slice A2 a.length c2, .slice A3 b.length c3] 29)
 have hZ : (((w.alloc (.cells #[.int .i64 t, .int .i64 s, .slice A2 a.length c2, .slice A3 b.length c3] 29)).alloc (.cells #[.int .i64 0, .int .i64 0, .slice none 0 0, .slice none 0 0] 29)).alloc (.cells #[.int .i64 t, .int .i64 s, .slice A2 a.length c2, .slice A3 b.length c3] 29)).heap[w.heap.size + 1]? = some (.cells #[.int .i64 0, .int .i64 0, .slice none 0 0, .slice none 0 0] 29 (0, 0)) := blk_alloc (blk_at _ _ _ (by simp)) _
 have hP1 : (((w.alloc (.cells #[.int .i64 t, .int .i64 s, .slice A2 a.length c2, .slice A3 b.length c3] 29)).alloc (.cells #[.int .i64 0, .int .i64 0, .slice none 0 0, .slice none 0 0] 29)).alloc (.cells #[.int .i64 t, .int .i64 s, .slice A2 a.length c2, .slice A3 b.length c3] 29)).heap[w.heap.size + 2]? = some (.cells #[.int .i64 t, .int .i64 s, .slice A2 a.length c2, .slice A3 b.length c3] 29 (0, 0)) := blk_at _ _ _ (by simp)
 have m0 : ((w.alloc (.cells #[.int .i64 t, .int .i64 s, .slice A2 a.length c2, .slice A3 b.length c3] 29)).alloc (.cells #[.int .i64 0, .int .i64 0, .slice none 0 0, .slice none 0 0] 29)).cell? ⟨w.heap.size, 0, none⟩ = some (.int .i64 t) := (blk_cell hP0 0).trans rfl
 have m1 : ((w.alloc (.cells #[.int .i64 t, .int .i64 s, .slice A2 a.length c2, .slice A3 b.length c3] 29)).alloc (.cells #[.int .i64 0, .int .i64 0, .slice none 0 0, .slice none 0 0] 29)).cell? ⟨w.heap.size, 1, none⟩ = some (.int .i64 s) := (blk_cell hP0 1).trans rfl
 have m2 : ((w.alloc (.cells #[.int .i64 t, .int .i64 s, .slice A2 a.length c2, .slice A3 b.length c3] 29)).alloc (.cells #[.int .i64 0, .int .i64 0, .slice none 0 0, .slice none 0 0] 29)).cell? ⟨w.heap.size, 2, none⟩ = some (.slice A2 a.length c2) := (blk_cell hP0 2).trans rfl
 have m3 : ((w.alloc (.cells #[.int .i64 t, .int .i64 s, .slice A2 a.length c2, .slice A3 b.length c3] 29)).alloc (.cells #[.int .i64 0, .int .i64 0, .slice none 0 0, .slice none 0 0] 29)).cell? ⟨w.heap.size, 3, none⟩ = some (.slice A3 b.length c3) := (blk_cell hP0 3).trans rfl
 have htwo := Aside0.mk (pairs_one (w.heap.size + 2) t s A2 c2 a A3 c3 b _ hP1 (hA.below hb1) hS)
 clear hP1 hP0 hb0
 by_cases h0 : twoC t s a b = 0
 ·obtain ⟨hok, ht2⟩ := two_ok h0
  have e : inR 0 t s a b = someR 2 0 (tidM 2 s a b).1 (tidM 2 s a b).2 := if_pos h0
  obtain ⟨RR, hRR⟩ : ∃ RR, someR 2 0 (tidM 2 s a b).1 (tidM 2 s a b).2 = RR := ⟨_, rfl⟩
  have hq : Aside0 (∀ W, Below w.heap.size w W → Calls Tryd.prog 106 #[.agg #[.int .i64 2, .int .i64 s, .slice A2 a.length c2, .slice A3 b.length c3], .int .i64 0] W (Gives RR W)) := ⟨fun W h => by
   rw [← hRR]
   exact someOn_impl 2 0 (by decide) (by decide) (by decide) s A2 c2 a A3 c3 b W (hA.below h) hS (by rw [ht2] at hok; exact hok) (glob_below hG h)⟩
  rw [e, hRR]
  have hRq := Aside0.mk hRR
  have h0' := Aside0.mk h0
  have ht2q := Aside0.mk ht2
  clear e h0 ht2 hok hRR
  go_enter Tryd.func44, Tryd.ntmps44
  go_wp2_with (first
   | (go_at_call 52; go_loud (
     with_reducible refine htwo.out.mono ?_
     rintro e w2 ⟨he, hb2⟩
     rw [h0'.out] at he
     subst he
     have hP2 := blk_below hP hb2
     have hB2 := below_step hb1 hb2
     have n0 : w2.cell? ⟨w.heap.size, 0, none⟩ = some (.int .i64 t) := (blk_cell hP2 0).trans rfl
     have n1 : w2.cell? ⟨w.heap.size, 1, none⟩ = some (.int .i64 s) := (blk_cell hP2 1).trans rfl
     have n2 : w2.cell? ⟨w.heap.size, 2, none⟩ = some (.slice A2 a.length c2) := (blk_cell hP2 2).trans rfl
     have n3 : w2.cell? ⟨w.heap.size, 3, none⟩ = some (.slice A3 b.length c3) := (blk_cell hP2 3).trans rfl))
   | (go_at_call 106; go_loud (
     have q := hq.out w2 hB2
     simp only [ht2q.out]
     with_reducible refine q.mono ?_
     rintro e w3 ⟨F2, y2, F3, y3, rfl, hRy, hb3⟩
     have hB3 := below_step hB2 hb3
     have b0 := blk_below (blk_below hZ hb2) hb3
     have e0 : w3.cell? ⟨w.heap.size + 1, 0, none⟩ = some (.int .i64 0) := (blk_cell b0 0).trans rfl
     have f0 : w3.frozen? ⟨w.heap.size + 1, 0, none⟩ = false := blk_frozen b0 0
     have e1 : w3.cell? ⟨w.heap.size + 1, 1, none⟩ = some (.int .i64 0) := (blk_cell b0 1).trans rfl
     have f1 : w3.frozen? ⟨w.heap.size + 1, 1, none⟩ = false := blk_frozen b0 1
     have e2 : w3.cell? ⟨w.heap.size + 1, 2, none⟩ = some (.slice none 0 0) := (blk_cell b0 2).trans rfl
     have f2 : w3.frozen? ⟨w.heap.size + 1, 2, none⟩ = false := blk_frozen b0 2
     have e3 : w3.cell? ⟨w.heap.size + 1, 3, none⟩ = some (.slice none 0 0) := (blk_cell b0 3).trans rfl
     have f3 : w3.frozen? ⟨w.heap.size + 1, 3, none⟩ = false := blk_frozen b0 3)))
  have b1 := blk_put b0 0 (.int .i64 RR.t) rfl
  have b2 := blk_put b1 1 (.int .i64 RR.s) rfl
  have b3 := blk_put b2 2 (.slice F2 RR.a.length y2) rfl
  have b4 := blk_put b3 3 (.slice F3 RR.b.length y3) rfl
  refine bodyPost_ret (results_ct rfl _ _ (w.heap.size + 1) 29 #[.int .i64 RR.t, .int .i64 RR.s, .slice F2 RR.a.length y2, .slice F3 RR.b.length y3] (0, 0) _ rfl b4 Tryd.underlying29 rfl (by kernel_rfl)) rfl ⟨F2, y2, F3, y3, rfl, ⟨?_, ?_⟩, ?_⟩
  ·have hR2 := hRy.r2
   exact Kd.R_lower (Kd.R_set (Kd.R_set (Kd.R_set (Kd.R_set hR2 b0 (by decide) 0 _) b1 (by decide) 1 _) b2 (by decide) 2 _) b3 (by decide) 3 _) (Below.size hB2)
  ·have hR3 := hRy.r3
   exact Kd.S_lower (Kd.S_set (Kd.S_set (Kd.S_set (Kd.S_set hR3 b0 (by decide) 0 _) b1 (by decide) 1 _) b2 (by decide) 2 _) b3 (by decide) 3 _) (Below.size hB2)
  ·exact (((hB3.setCell (by simp) _).setCell (by simp) _).setCell (by simp) _).setCell (by simp) _
 ·have e : inR 0 t s a b = bad (twoC t s a b) := if_neg h0
  rw [e]
  have x1 : (twoC t s a b == 0) = false := beq_eq_false_iff_ne.mpr h0
  have x2 : (twoC t s a b != 0) = true := bne_iff_ne.mpr h0
  have x3 : (twoC t s a b = 0) = False := eq_false h0
  clear e h0
  go_enter Tryd.func44, Tryd.ntmps44
  go_wp2_with (go_at_call 52; go_loud (
     with_reducible refine htwo.out.mono ?_
     rintro e w2 ⟨rfl, hb2⟩
     have hB2 := below_step hb1 hb2
     have b0 := blk_below hZ hb2
     have e0 : w2.cell? ⟨w.heap.size + 1, 0, none⟩ = some (.int .i64 0) := (blk_cell b0 0).trans rfl
     have f0 : w2.frozen? ⟨w.heap.size + 1, 0, none⟩ = false := blk_frozen b0 0
     have e1 : w2.cell? ⟨w.heap.size + 1, 1, none⟩ = some (.int .i64 0) := (blk_cell b0 1).trans rfl
     have f1 : w2.frozen? ⟨w.heap.size + 1, 1, none⟩ = false := blk_frozen b0 1
     have e2 : w2.cell? ⟨w.heap.size + 1, 2, none⟩ = some (.slice none 0 0) := (blk_cell b0 2).trans rfl
     have f2 : w2.frozen? ⟨w.heap.size + 1, 2, none⟩ = false := blk_frozen b0 2
     have e3 : w2.cell? ⟨w.heap.size + 1, 3, none⟩ = some (.slice none 0 0) := (blk_cell b0 3).trans rfl
     have f3 : w2.frozen? ⟨w.heap.size + 1, 3, none⟩ = false := blk_frozen b0 3))
  have b1 := blk_put b0 0 (.int .i64 0) rfl
  have b2 := blk_put b1 1 (.int .i64 0) rfl
  have b3 := blk_put b2 2 (.slice none 0 0) rfl
  have b4 := blk_put b3 3 (.slice none 0 0) rfl
  refine bodyPost_ret (results_ct rfl _ _ (w.heap.size + 1) 29 #[.int .i64 0, .int .i64 0, .slice none 0 0, .slice none 0 0] (0, 0) _ rfl b4 Tryd.underlying29 rfl (by kernel_rfl)) rfl (gives_bad rfl ?_)
  exact (((hB2.setCell (by simp) _).setCell (by simp) _).setCell (by simp) _).setCell (by simp) _
end Go.Proofs.YtbamnonamdpooaaDoor.In
namespace Go.Proofs.YtbamnonamdpooaaDoor.Lw
set_option linter.unusedVariables false
set_option linter.unusedSimpArgs false
open Go.RowKit Go.Proofs.YtbamnonamdpooaaDoorW.PrintWords Go.Proofs.YtbamnonamdpooaaDoorW.PrintLast Go.Proofs.YtbamnonamdpooaaDoorW.PrintMore Kp Mg Mk Sm Tdy Tf Tid Ti Tr Lr Sq
/-- What is given is small. -/
structure Fit (R : RRes) : Prop where
 a : R.a.length ≤ 150
 b : R.b.length ≤ 150
 r : ∀ x ∈ R.b, x.length ≤ 26
theorem tot_small {l : List (List Int)} {m : Nat} (h : ∀ x ∈ l, x.length ≤ m) : tot l ≤ m * l.length := by
 induction l with
 | nil => simp [tot]
 | cons r l ih =>
  rw [tot_cons, List.length_cons, Nat.mul_succ]
  have h1 := h r (List.mem_cons_self ..)
  have h2 := ih (fun x hx => h x (List.mem_cons_of_mem _ hx))
  omega
theorem Fit.tot {R : RRes} (h : Fit R) : tot R.b ≤ 3900 := by
 have := tot_small h.r
 have := h.b
 omega
theorem Fit.small {R : RRes} (h : Fit R) : Small R.a R.b := ⟨by have := h.a; omega, by have := h.b; omega, fun r hr => by have := h.r r hr; omega⟩
theorem fit_bad (c : Int) : Fit (bad c) := ⟨by simp [bad], by simp [bad], by simp [bad]⟩
theorem fit_told (t : Nat) (ht : t < 4) (T : Int) {a : List Bool} {rows : List (List Nat)} (h : Closed (wdOf t) rows a) : Fit (toldR T a (rows.map ints)) := by
 unfold toldR
 by_cases hc : a.length ≤ 150
 ·rw [if_pos hc]
  refine ⟨hc, by simp only [List.length_map]; rw [h.len]; exact hc, fun x hx => ?_⟩
  obtain ⟨r, hr, rfl⟩ := List.mem_map.1 hx
  rw [ints_length, h.wide r hr]
  exact wd_le t ht
 ·rw [if_neg hc]
  exact fit_bad 3
theorem fit_tidL (t : Nat) (ht : t < 4) (T : Int) {a : List Bool} {rows : List (List Nat)} {s : Nat} (hs : s < rows.length) (h : Closed (wdOf t) rows a) : Fit (toldR T (tidL (wdOf t) rows a s (padT t)).1 ((tidL (wdOf t) rows a s (padT t)).2.map ints)) := fit_told t ht T (tid_good ht hs h).1
theorem fit_someR (t tp : Nat) (ht : t < 4) (a : List Bool) (rows : List (List Nat)) : Fit (someR t tp a rows) := by
 unfold someR
 rcases meet_some (rows := rows) (col := colT t tp) (wd := wdOf (t - 1)) (limit := 1000) (start := startS rows.length) (by omega) with ⟨⟨l, rws⟩, h1, h2⟩ | ⟨h1, h2⟩
 ·rw [h2]
  have h3 := meet_closed h1 (accS rows a (colT t tp (wdOf (t - 1)) 0) (colT t tp (wdOf (t - 1)) 1))
  exact fit_tidL (t - 1) (by omega) _ h3.2.1 h3.1
 ·rw [h2]
  exact fit_bad 3
section
variable {w W W' : World} {base : Nat} {ok : Nat → Prop} {A2 A3 : Option Addr} {c2 c3 : Nat} {a : List Bool} {b : List (List Int)}
theorem rel_arg (h : Rel W base ok A2 c2 a A3 c3 b) : Arg W A2 c2 a A3 c3 b := ⟨(Kd.R_reads' h.r2).2.2, (Kd.R_reads' h.r2).2.1, (Kd.S_reads' h.r3).2.2, (Kd.S_reads' h.r3).2.1⟩
theorem rel_lower {base' : Nat} (h : Rel W base ok A2 c2 a A3 c3 b) (hl : base' ≤ base) : Rel W base' ok A2 c2 a A3 c3 b := ⟨Kd.R_lower h.r2 hl, Kd.S_lower h.r3 hl⟩
/-- What was just given, later. -/
theorem rel_old (h : Rel w base (fun _ => True) A2 c2 a A3 c3 b) (hb : Below w.heap.size w W) {base' : Nat} (hl : base' ≤ base) : Rel W base' (fun k => k < w.heap.size) A2 c2 a A3 c3 b :=
 rel_lower ((h.bound.step (fun k hk _ => hb.block k hk.2.2)).mono (fun k hk => hk.2.2)) hl
end
/-- The blocks of one relation in memory. -/
structure Bx where
 t : Int
 s : Int
 A2 : Option Addr
 n2 : Nat
 c2 : Nat
 A3 : Option Addr
 n3 : Nat
 c3 : Nat
def Bx.cells (x : Bx) : Array Value := #[.int .i64 x.t, .int .i64 x.s, .slice x.A2 x.n2 x.c2, .slice x.A3 x.n3 x.c3]
/-- What stands in memory: the argument's box, the awaited relation, the copy that was handed over, the relation that was given. -/
structure St (w : World) (P : Array Value) (gW gX gG : Nat) (bW bX bG : Bx) (wa : List Bool) (wb : List (List Int)) (xa : List Bool) (xb : List (List Int)) (ga : List Bool) (gb : List (List Int)) (W : World) : Prop where
 bel : Below w.heap.size w W
 p : W.heap[w.heap.size]? = some (.cells P 25 (0, 0))
 pw : W.heap[gW]? = some (.cells bW.cells 29 (0, 0))
 px : W.heap[gX]? = some (.cells bX.cells 29 (0, 0))
 pg : W.heap[gG]? = some (.cells bG.cells 29 (0, 0))
 lW : w.heap.size < gW
 lX : gW < gX
 lG : gX < gG
 nW2 : bW.n2 = wa.length
 nW3 : bW.n3 = wb.length
 nX2 : bX.n2 = xa.length
 nX3 : bX.n3 = xb.length
 nG2 : bG.n2 = ga.length
 nG3 : bG.n3 = gb.length
 rW : Rel W (w.heap.size + 1) (fun k => k < gW) bW.A2 bW.c2 wa bW.A3 bW.c3 wb
 rX : Rel W (gW + 1) (fun k => k < gX) bX.A2 bX.c2 xa bX.A3 bX.c3 xb
 rG : Rel W (gX + 1) (fun k => k < gG) bG.A2 bG.c2 ga bG.A3 bG.c3 gb
section
variable {w W W' : World} {P : Array Value} {gW gX gG : Nat} {bW bX bG : Bx} {wa xa ga xa' ga' : List Bool} {wb xb gb xb' gb' : List (List Int)}
theorem St.below (h : St w P gW gX gG bW bX bG wa wb xa xb ga gb W) (hb : Below W.heap.size W W') : St w P gW gX gG bW bX bG wa wb xa xb ga gb W' :=
 { h with bel := below_step h.bel hb, p := blk_below h.p hb, pw := blk_below h.pw hb, px := blk_below h.px hb, pg := blk_below h.pg hb, rW := h.rW.below hb, rX := h.rX.below hb, rG := h.rG.below hb }
theorem St.markX (h : St w P gW gX gG bW bX bG wa wb xa xb ga gb W) (hk : KeepS (gW + 1) W W' (fun k => k < gX)) (hr : Rel W' (gW + 1) (fun k => k < gX) bX.A2 bX.c2 xa' bX.A3 bX.c3 xb') (h2 : xa'.length = xa.length) (h3 : xb'.length = xb.length) : St w P gW gX gG bW bX bG wa wb xa' xb' ga gb W' := by
 have l1 := h.lW
 have l2 := h.lX
 have l3 := h.lG
 exact { h with bel := h.bel.trans (hk.bel.mono (by omega)), p := (hk.bel.block _ (by omega)).trans h.p, pw := (hk.bel.block _ (by omega)).trans h.pw, px := (hk.blk _ (blk_lt h.px) (by omega)).trans h.px, pg := (hk.blk _ (blk_lt h.pg) (by omega)).trans h.pg, nX2 := by rw [h2]; exact h.nX2, nX3 := by rw [h3]; exact h.nX3, rW := h.rW.step (fun k hk' _ => hk.bel.block k (by omega)), rX := hr, rG := h.rG.bound.step (fun k hk' hlt => hk.blk k hlt (by omega)) |>.mono (fun k hk' => hk'.1) }
theorem St.markG (h : St w P gW gX gG bW bX bG wa wb xa xb ga gb W) (hk : KeepS (gX + 1) W W' (fun k => k < gG)) (hr : Rel W' (gX + 1) (fun k => k < gG) bG.A2 bG.c2 ga' bG.A3 bG.c3 gb') (h2 : ga'.length = ga.length) (h3 : gb'.length = gb.length) : St w P gW gX gG bW bX bG wa wb xa xb ga' gb' W' := by
 have l1 := h.lW
 have l2 := h.lX
 have l3 := h.lG
 exact { h with bel := h.bel.trans (hk.bel.mono (by omega)), p := (hk.bel.block _ (by omega)).trans h.p, pw := (hk.bel.block _ (by omega)).trans h.pw, px := (hk.bel.block _ (by omega)).trans h.px, pg := (hk.blk _ (blk_lt h.pg) (by omega)).trans h.pg, nG2 := by rw [h2]; exact h.nG2, nG3 := by rw [h3]; exact h.nG3, rW := h.rW.step (fun k hk' _ => hk.bel.block k (by omega)), rX := h.rX.step (fun k hk' _ => hk.bel.block k (by omega)), rG := hr }
theorem St.leX (h : St w P gW gX gG bW bX bG wa wb xa xb ga gb W) : gW + 1 ≤ W.heap.size := blk_lt h.pw
theorem St.leG (h : St w P gW gX gG bW bX bG wa wb xa xb ga gb W) : gX + 1 ≤ W.heap.size := blk_lt h.px
theorem St.heldB {n : Nat} (h : St w P gW gX gG bW bX bG wa wb xa xb (mB 1 n) gb W) : Kd.C Kd.bool W bG.A2 n (mB 1 n) := by
 have := (rel_arg h.rG).r2
 rwa [mB_length] at this
theorem St.heldR {k : Nat} {l : List (List Int)} (h : St w P gW gX gG bW bX bG wa wb xa xb ga (mR k l) W) : Kd.C Row W bG.A3 l.length (mR k l) := by
 have := (rel_arg h.rG).r3
 rwa [mR_length] at this
end
set_option maxHeartbeats 1000000 in
theorem mark1 {T : Nat} (t s : Int) (A2 : Option Addr) (c2 : Nat) (a : List Bool) (A3 : Option Addr) (c3 : Nat) (b : List (List Int)) (w : World) (base : Nat) (ok : Nat → Prop) (hle : base ≤ w.heap.size) (h : Rel w base ok A2 c2 a A3 c3 b) (hl : b.length ≤ 2000000) (hk : 1 + a.length + tot b ≤ 1000000000) (hT : 1 + a.length + tot b = T) :
  Calls Tryd.prog 23 #[.agg #[.int .i64 t, .int .i64 s, .slice A2 a.length c2, .slice A3 b.length c3], .int .i64 1] w fun e w' => e = .returned (.int .i64 (T : Int)) ∧ Rel w' base ok A2 c2 (mB 1 a.length) A3 c3 (mR (1 + a.length) b) ∧ KeepS base w w' ok := by
 subst hT
 exact markRel 1 t s A2 c2 a A3 c3 b w base ok hle h hl hk
set_option maxHeartbeats 1000000 in
theorem held1 {T : Nat} (n : Nat) (t s : Int) (A2 : Option Addr) (c2 : Nat) (A3 : Option Addr) (c3 : Nat) (b : List (List Int)) (w : World) (h2 : Kd.C Kd.bool w A2 n (mB 1 n)) (h3 : Kd.C Row w A3 b.length (mR (1 + n) b)) (hl : b.length ≤ 2000000) (hk : 1 + n + tot b ≤ 1000000000) (hT : 1 + n + tot b = T) :
  Calls Tryd.prog 24 #[.agg #[.int .i64 t, .int .i64 s, .slice A2 n c2, .slice A3 b.length c3], .int .i64 1] w fun e w' => e = .returned (.int .i64 (T : Int)) ∧ Below w.heap.size w w' := by
 subst hT
 exact heldRel 1 n t s A2 c2 A3 c3 b w h2 h3 hl hk
end Go.Proofs.YtbamnonamdpooaaDoor.Lw
namespace Go.Proofs.YtbamnonamdpooaaDoor.Lw
open Tr Lr Sq In PureRel Tid
theorem fit_inR (tp : Nat) (t s : Int) (a : List Bool) (b : List (List Int)) : Fit (inR tp t s a b) := by
 unfold inR
 by_cases h : twoC t s a b = 0
 ·rw [if_pos h]
  exact fit_someR 2 tp (by decide) _ _
 ·rw [if_neg h]
  exact fit_bad _
end Go.Proofs.YtbamnonamdpooaaDoor.Lw
namespace Go.Proofs.YtbamnonamdpooaaDoor.LwO
set_option linter.unusedVariables false
set_option linter.unusedSimpArgs false
open Go.RowKit Go.Proofs.YtbamnonamdpooaaDoorW.PrintWords Go.Proofs.YtbamnonamdpooaaDoorW.PrintLast Go.Proofs.YtbamnonamdpooaaDoorW.PrintMore Kp Mg Mk Sm Tdy Tf Tid Ti Tr PT3 PureRel Lr Sq In Lw
set_option maxHeartbeats 8000000 in
set_option maxRecDepth 100000 in
theorem law_calls (t s : Int) (A2 : Option Addr) (c2 : Nat) (a : List Bool) (A3 : Option Addr) (c3 : Nat) (b : List (List Int)) (w : World) (hA : Arg w A2 c2 a A3 c3 b) (hG : Glob w) (la : a.length ≤ 9223372036854775807) (lb : b.length ≤ 9223372036854775807) (lr : ∀ r ∈ b, r.length ≤ 9223372036854775807) :
  Calls Tryd.prog 11 #[.agg #[.int .i64 t, .int .i64 s, .slice A2 a.length c2, .slice A3 b.length c3]] w fun e w' => e = .returned (.bool true) ∧ Below w.heap.size w w' := by
 obtain ⟨z, hz, hzl⟩ := szRel_ev t s a b 1048576 (by omega) (by omega) la lb lr
 obtain ⟨kz, hkz⟩ := hz.rounds
 have hsz := Aside0.mk hkz
 have hb1 : Below w.heap.size w (w.alloc (.cells #[.int .i64 t, .int .i64 s, .slice A2 a.length c2, .slice A3 b.length c3] 25)) := below_alloc (Below.refl _ _) _
 have hP1 := blk_new w (.cells #[.int .i64 t, .int .i64 s, .slice A2 a.length c2, .slice A3 b.length c3] 25)
 have hG2 := Aside0.mk hG
 clear hz hkz hG
 by_cases h0 : z < 0
 ·have z1 : (z < 0) = True := eq_true h0
  clear h0
  go_enter Tryd.func11, Tryd.ntmps11
  go_wp2_with (go_at_call 12; go_loud (
   with_reducible refine (laws_szRelation.calls kz t s A2 c2 a A3 c3 b 1048576 z _ (hA.below hb1).r2 hA.l2 (hA.below hb1).r3 hA.l3 hsz.out).mono ?_
   rintro e w2 ⟨rfl, hb2⟩
   have hB2 := below_step hb1 hb2))
  go_ret
  exact ⟨rfl, hB2⟩
 ·obtain ⟨x1, x2', x3', x4⟩ := hzl (by omega)
  have hS : Small a b := ⟨x1, x2', x3'⟩
  obtain ⟨kt, hkt⟩ := (toRel_ev t s a b hS.la hS.lb hS.lr).rounds
  have htr := Aside0.mk hkt
  have z1 : (z < 0) = False := eq_false h0
  obtain ⟨RR, hRR⟩ : ∃ RR, inR 0 t s a b = RR := ⟨_, rfl⟩
  have hRq := Aside0.mk hRR
  have hF : Aside0 (Fit RR) := ⟨by rw [← hRR]; exact fit_inR 0 t s a b⟩
  obtain ⟨TX, hTX⟩ : ∃ T, 1 + a.length + tot b = T := ⟨_, rfl⟩
  obtain ⟨TG, hTG⟩ : ∃ T, 1 + RR.a.length + tot RR.b = T := ⟨_, rfl⟩
  have hTXq := Aside0.mk hTX
  have hTGq := Aside0.mk hTG
  have hXl : Aside0 (1 + a.length + tot b ≤ 1000000000) := ⟨by unfold tot; omega⟩
  have hGl : Aside0 (1 + RR.a.length + tot RR.b ≤ 1000000000) := ⟨by have := hF.out.tot; have := hF.out.a; omega⟩
  have n0 : ((TX : Int) < 0) = False := eq_false (by omega)
  have n1 : ((TG : Int) < 0) = False := eq_false (by omega)
  have n2 : ((TG : Int) != (TG : Int)) = false := by simp
  have n3 : (RR.c != RR.c) = false := by simp
  clear h0 hkt hRR hzl hTX hTG x1 x2' x3' x4
  go_enter Tryd.func11, Tryd.ntmps11
  go_wp2_with (first
   | (go_at_call 12; go_loud (
     with_reducible refine (laws_szRelation.calls kz t s A2 c2 a A3 c3 b 1048576 z _ (hA.below hb1).r2 hA.l2 (hA.below hb1).r3 hA.l3 hsz.out).mono ?_
     rintro e w2 ⟨rfl, hb2⟩
     have hP2 := blk_below hP1 hb2
     have hB2 := below_step hb1 hb2
     have m2_0 : w2.cell? ⟨w.heap.size, 0, none⟩ = some (.int .i64 t) := (blk_cell hP2 0).trans rfl
     have m2_1 : w2.cell? ⟨w.heap.size, 1, none⟩ = some (.int .i64 s) := (blk_cell hP2 1).trans rfl
     have m2_2 : w2.cell? ⟨w.heap.size, 2, none⟩ = some (.slice A2 a.length c2) := (blk_cell hP2 2).trans rfl
     have m2_3 : w2.cell? ⟨w.heap.size, 3, none⟩ = some (.slice A3 b.length c3) := (blk_cell hP2 3).trans rfl))
   | (go_at_call 14; (with_reducible refine (laws_toRelation.calls kt t s A2 c2 a A3 c3 b _ _ _ _ w2 (hA.below hB2).r2 hA.l2 (hA.below hB2).r3 hA.l3 htr.out).mono ?_); go_loud (
     rintro e w3 ⟨q2, q3, rfl, r2, r3, hb3⟩
     obtain ⟨B2, d2, e2⟩ := Kd.R_slice r2
     subst e2
     obtain ⟨B3, d3, e3⟩ := Kd.S_slice r3
     subst e3
     have hB3 := below_step hB2 hb3
     have hP3 := blk_below hP2 hb3
     have hA3 : Arg w3 B2 d2 a B3 d3 b := ⟨(Kd.R_reads' r2).2.2, (Kd.R_reads' r2).2.1, (Kd.S_reads' r3).2.2, (Kd.S_reads' r3).2.1⟩
     clear r2 r3))
   | (go_at_call 43; go_loud (
     have q := spec_OutputsIn t s B2 d2 a B3 d3 b _ hA3 hS
     rw [hRq.out] at q
     with_reducible refine q.mono ?_
     clear q
     rintro e w4 ⟨W2, v2, W3, v3, rfl, hRW, hb4⟩
     have hB4 := below_step hB3 hb4
     have hP4 := blk_alloc (blk_below hP3 hb4) (.cells #[.int .i64 RR.t, .int .i64 RR.s, .slice W2 RR.a.length v2, .slice W3 RR.b.length v3] 29)
     have hb4a : Below w4.heap.size w4 (w4.alloc (.cells #[.int .i64 RR.t, .int .i64 RR.s, .slice W2 RR.a.length v2, .slice W3 RR.b.length v3] 29)) := below_alloc (Below.refl _ _) _
     have hW4 := blk_new w4 (.cells #[.int .i64 RR.t, .int .i64 RR.s, .slice W2 RR.a.length v2, .slice W3 RR.b.length v3] 29)
     have hB4a := below_step hB4 hb4a
     have m4_0 : (w4.alloc (.cells #[.int .i64 RR.t, .int .i64 RR.s, .slice W2 RR.a.length v2, .slice W3 RR.b.length v3] 29)).cell? ⟨w.heap.size, 0, none⟩ = some (.int .i64 t) := (blk_cell hP4 0).trans rfl
     have m4_1 : (w4.alloc (.cells #[.int .i64 RR.t, .int .i64 RR.s, .slice W2 RR.a.length v2, .slice W3 RR.b.length v3] 29)).cell? ⟨w.heap.size, 1, none⟩ = some (.int .i64 s) := (blk_cell hP4 1).trans rfl
     have m4_2 : (w4.alloc (.cells #[.int .i64 RR.t, .int .i64 RR.s, .slice W2 RR.a.length v2, .slice W3 RR.b.length v3] 29)).cell? ⟨w.heap.size, 2, none⟩ = some (.slice A2 a.length c2) := (blk_cell hP4 2).trans rfl
     have m4_3 : (w4.alloc (.cells #[.int .i64 RR.t, .int .i64 RR.s, .slice W2 RR.a.length v2, .slice W3 RR.b.length v3] 29)).cell? ⟨w.heap.size, 3, none⟩ = some (.slice A3 b.length c3) := (blk_cell hP4 3).trans rfl))
   | (go_at_call 14; (with_reducible refine (laws_toRelation.calls kt t s A2 c2 a A3 c3 b _ _ _ _ (w4.alloc (.cells #[.int .i64 RR.t, .int .i64 RR.s, .slice W2 RR.a.length v2, .slice W3 RR.b.length v3] 29)) (hA.below hB4a).r2 hA.l2 (hA.below hB4a).r3 hA.l3 htr.out).mono ?_); go_loud (
     rintro e w5 ⟨q2, q3, rfl, r2, r3, hb5⟩
     obtain ⟨X2, x2, e2⟩ := Kd.R_slice r2
     subst e2
     obtain ⟨X3, x3, e3⟩ := Kd.S_slice r3
     subst e3
     have hRX : Rel w5 (w4.alloc (.cells #[.int .i64 RR.t, .int .i64 RR.s, .slice W2 RR.a.length v2, .slice W3 RR.b.length v3] 29)).heap.size (fun _ => True) X2 x2 a X3 x3 b := ⟨r2, r3⟩
     have hb5a : Below w5.heap.size w5 (w5.alloc (.cells #[.int .i64 t, .int .i64 s, .slice X2 a.length x2, .slice X3 b.length x3] 29)) := below_alloc (Below.refl _ _) _
     have hX5 := blk_new w5 (.cells #[.int .i64 t, .int .i64 s, .slice X2 a.length x2, .slice X3 b.length x3] 29)
     have hW5 := blk_below (blk_below hW4 hb5) hb5a
     have hP5 := blk_below (blk_below hP4 hb5) hb5a
     have hB5 := below_step (below_step hB4a hb5) hb5a
     have hA5 : Arg (w5.alloc (.cells #[.int .i64 t, .int .i64 s, .slice X2 a.length x2, .slice X3 b.length x3] 29)) X2 x2 a X3 x3 b := (rel_arg hRX).below hb5a
     clear r2 r3))
   | (go_at_call 44; (
     have q := impl_OutputsIn t s X2 x2 a X3 x3 b _ hA5 hS (glob_below hG2.out hB5)
     rw [hRq.out] at q
     with_reducible refine q.mono ?_
     clear q); go_loud (
     rintro e w7 ⟨G2, y2, G3, y3, rfl, hRG, hb7⟩
     have hb7a : Below w7.heap.size w7 (w7.alloc (.cells #[.int .i64 RR.t, .int .i64 RR.s, .slice G2 RR.a.length y2, .slice G3 RR.b.length y3] 29)) := below_alloc (Below.refl _ _) _
     have hG7 := blk_new w7 (.cells #[.int .i64 RR.t, .int .i64 RR.s, .slice G2 RR.a.length y2, .slice G3 RR.b.length y3] 29)
     have s4 : w4.heap.size + 1 ≤ w5.heap.size := by have := hb5.size; simpa using this
     have s5 : w5.heap.size + 1 ≤ w7.heap.size := by have := hb7.size; simpa using this
     have hst7 : St w #[.int .i64 t, .int .i64 s, .slice A2 a.length c2, .slice A3 b.length c3] w4.heap.size w5.heap.size w7.heap.size ⟨RR.t, RR.s, W2, RR.a.length, v2, W3, RR.b.length, v3⟩ ⟨t, s, X2, a.length, x2, X3, b.length, x3⟩ ⟨RR.t, RR.s, G2, RR.a.length, y2, G3, RR.b.length, y3⟩ RR.a RR.b a b RR.a RR.b (w7.alloc (.cells #[.int .i64 RR.t, .int .i64 RR.s, .slice G2 RR.a.length y2, .slice G3 RR.b.length y3] 29)) :=
      { bel := below_step (below_step hB5 hb7) hb7a, p := blk_below (blk_below hP5 hb7) hb7a, pw := blk_below (blk_below hW5 hb7) hb7a, px := blk_below (blk_below hX5 hb7) hb7a, pg := hG7, lW := (by have := blk_lt hP3; have := hb4.size; omega), lX := (by omega), lG := (by omega), nW2 := rfl, nW3 := rfl, nX2 := rfl, nX3 := rfl, nG2 := rfl, nG3 := rfl, rW := rel_old hRW ((((hb4a.trans (hb5.mono (by simp))).trans (hb5a.mono (by omega))).trans (hb7.mono (by simp <;> omega))).trans (hb7a.mono (by omega))) (blk_lt hP3), rX := (rel_old hRX (hb5a.trans ((hb7.mono (by simp)).trans (hb7a.mono (by omega)))) (by simp)), rG := (rel_old hRG hb7a (by simp)) }
     clear hRW hRX hRG
     have m7_0 : (w7.alloc (.cells #[.int .i64 RR.t, .int .i64 RR.s, .slice G2 RR.a.length y2, .slice G3 RR.b.length y3] 29)).cell? ⟨w4.heap.size, 0, none⟩ = some (.int .i64 RR.t) := (blk_cell hst7.pw 0).trans rfl
     have m7_1 : (w7.alloc (.cells #[.int .i64 RR.t, .int .i64 RR.s, .slice G2 RR.a.length y2, .slice G3 RR.b.length y3] 29)).cell? ⟨w4.heap.size, 1, none⟩ = some (.int .i64 RR.s) := (blk_cell hst7.pw 1).trans rfl
     have m7_2 : (w7.alloc (.cells #[.int .i64 RR.t, .int .i64 RR.s, .slice G2 RR.a.length y2, .slice G3 RR.b.length y3] 29)).cell? ⟨w4.heap.size, 2, none⟩ = some (.slice W2 RR.a.length v2) := (blk_cell hst7.pw 2).trans rfl
     have m7_3 : (w7.alloc (.cells #[.int .i64 RR.t, .int .i64 RR.s, .slice G2 RR.a.length y2, .slice G3 RR.b.length y3] 29)).cell? ⟨w4.heap.size, 3, none⟩ = some (.slice W3 RR.b.length v3) := (blk_cell hst7.pw 3).trans rfl))
   | (go_at_call 16; (with_reducible refine (eq_same RR.t RR.s G2 y2 RR.a G3 y3 RR.b W2 v2 W3 v3 (w7.alloc (.cells #[.int .i64 RR.t, .int .i64 RR.s, .slice G2 RR.a.length y2, .slice G3 RR.b.length y3] 29)) (rel_arg hst7.rG) (rel_arg hst7.rW) hF.out.small).mono ?_); go_loud (
     rintro e w9 ⟨rfl, hb9⟩
     have hst9 := hst7.below hb9)))
  clear hst7
  obtain ⟨gW, hgW⟩ : ∃ g, w4.heap.size = g := ⟨_, rfl⟩
  obtain ⟨gX, hgX⟩ : ∃ g, w5.heap.size = g := ⟨_, rfl⟩
  obtain ⟨gG, hgG⟩ : ∃ g, w7.heap.size = g := ⟨_, rfl⟩
  rw [hgW, hgX, hgG] at hst9
  simp only [hgW, hgX, hgG]
  clear hgW hgX hgG hb1 hP1 hP2 hB2 hb2 hb3 hB3 hP3 hA3 hb4 hB4 hP4 hb4a hW4 hB4a hb5 hb5a hX5 hW5 hP5 hB5 hA5 hb7 hb7a hG7 s4 s5 hb9 m2_0 m2_1 m2_2 m2_3 m4_0 m4_1 m4_2 m4_3 m7_0 m7_1 m7_2 m7_3
  have hst9d := hst9.below (below_drew1 (Below.refl _ _))
  refine start_ (n := 5) (S := (fun w' => w'.cell? ⟨gX, 0, none⟩ = some (.int .i64 t) ∧ w'.cell? ⟨gX, 1, none⟩ = some (.int .i64 s) ∧ w'.cell? ⟨gX, 2, none⟩ = some (.slice X2 a.length x2) ∧ w'.cell? ⟨gX, 3, none⟩ = some (.slice X3 b.length x3) ∧ w'.cell? ⟨w.heap.size, 0, none⟩ = some (.int .i64 t) ∧ w'.cell? ⟨w.heap.size, 1, none⟩ = some (.int .i64 s) ∧ w'.cell? ⟨w.heap.size, 2, none⟩ = some (.slice A2 a.length c2) ∧ w'.cell? ⟨w.heap.size, 3, none⟩ = some (.slice A3 b.length c3))) (ds := []) (.replicate 5 false) (by kernel_rfl) rfl rfl (⟨(blk_cell hst9d.px 0).trans rfl, (blk_cell hst9d.px 1).trans rfl, (blk_cell hst9d.px 2).trans rfl, (blk_cell hst9d.px 3).trans rfl, (blk_cell hst9d.p 0).trans rfl, (blk_cell hst9d.p 1).trans rfl, (blk_cell hst9d.p 2).trans rfl, (blk_cell hst9d.p 3).trans rfl⟩) (fun hHeld => ?_)
  refine take_ (i := 0) (N := some 41) (v := ?_) (a' := ?_) (zb 5 1) rfl rfl (by kernel_rfl) (fun _ _ _ h => h) (Or.inl ⟨by rfl, ?_⟩) hHeld ?_ ?_
  rotate_left
  ·rintro w' ⟨s0, s1, s2, s3, s4, s5, s6, s7⟩
   go_simp
   with_reducible rfl
  rotate_left
  ·simp only [Act.put, Za, Zb, Zc, i64_w, i32_w]
   rfl
  refine take_ (i := 1) (N := some 42) (v := ?_) (a' := ?_) (zb 5 3) rfl rfl (by kernel_rfl) (fun _ _ _ h => h) (Or.inl ⟨by rfl, ?_⟩) hHeld ?_ ?_
  rotate_left
  ·rintro w' ⟨s0, s1, s2, s3, s4, s5, s6, s7⟩
   go_simp
   with_reducible rfl
  rotate_left
  ·simp only [Act.put, Za, Zb, Zc, i64_w, i32_w]
   rfl
  refine one_ (i := 2) (N := some 43) (zb 5 7) rfl rfl (by kernel_rfl) (by decide) (fun K hK => ?_)
  refine goes_ Tryd.func14 (by kernel_rfl) rfl #[.agg #[.int .i64 t, .int .i64 s, .slice A2 a.length c2, .slice A3 b.length c3]] (by rfl) rfl rfl (by (try simp only [List.map_toArray, List.map_cons, List.map_nil]); first | done | rfl) ?_
  with_reducible refine (laws_toRelation.calls kt t s A2 c2 a A3 c3 b _ _ _ _ _ (hA.below hst9d.bel).r2 hA.l2 (hA.below hst9d.bel).r3 hA.l3 htr.out).mono ?_
  rintro e w10 ⟨q2, q3, rfl, r2, r3, hb10⟩
  obtain ⟨Y2, u2, e2⟩ := Kd.R_slice r2
  subst e2
  obtain ⟨Y3, u3, e3⟩ := Kd.S_slice r3
  subst e3
  refine ⟨_, rfl, ?_⟩
  have hst10 := hst9d.below hb10
  refine hK.out _ _ ⟨(blk_cell hst10.px 0).trans rfl, (blk_cell hst10.px 1).trans rfl, (blk_cell hst10.px 2).trans rfl, (blk_cell hst10.px 3).trans rfl, (blk_cell hst10.p 0).trans rfl, (blk_cell hst10.p 1).trans rfl, (blk_cell hst10.p 2).trans rfl, (blk_cell hst10.p 3).trans rfl⟩ (fun hHeld => ?_)
  clear hK K
  refine norm_ (a' := ?_) ?_ ?_
  rotate_left
  ·show Act.put _ (some 43) _ = _
   simp only [Act.put, Za, Zb, Zc, i64_w, i32_w]
   rfl
  refine one_ (i := 3) (N := some 44) (zb 5 15) rfl rfl (by kernel_rfl) (by decide) (fun K hK => ?_)
  refine goes_ Tryd.func16 (by kernel_rfl) rfl #[.agg #[.int .i64 t, .int .i64 s, .slice X2 a.length x2, .slice X3 b.length x3], .agg #[.int .i64 t, .int .i64 s, .slice Y2 a.length u2, .slice Y3 b.length u3]] (by rfl) rfl rfl (by (try simp only [List.map_toArray, List.map_cons, List.map_nil]); first | done | rfl) ?_
  with_reducible refine (eq_same t s X2 x2 a X3 x3 b Y2 u2 Y3 u3 _ (rel_arg hst10.rX) ⟨(Kd.R_reads' r2).2.2, (Kd.R_reads' r2).2.1, (Kd.S_reads' r3).2.2, (Kd.S_reads' r3).2.1⟩ hS).mono ?_
  rintro e w11 ⟨rfl, hb11⟩
  refine ⟨_, rfl, ?_⟩
  have hst11 := hst10.below hb11
  clear r2 r3
  refine hK.out _ _ ⟨(blk_cell hst11.px 0).trans rfl, (blk_cell hst11.px 1).trans rfl, (blk_cell hst11.px 2).trans rfl, (blk_cell hst11.px 3).trans rfl, (blk_cell hst11.p 0).trans rfl, (blk_cell hst11.p 1).trans rfl, (blk_cell hst11.p 2).trans rfl, (blk_cell hst11.p 3).trans rfl⟩ (fun hHeld => ?_)
  clear hK K
  refine norm_ (a' := ?_) ?_ ?_
  rotate_left
  ·show Act.put _ (some 44) _ = _
   simp only [Act.put, Za, Zb, Zc, i64_w, i32_w]
   rfl
  refine pure_ (i := 4) (N := some 45) (v := ?_) (a' := ?_) (zb 5 31) rfl rfl (by kernel_rfl) (fun _ _ _ h => h) (Or.inl ⟨by rfl, ?_⟩) ?_ ?_
  rotate_left
  ·intro w'
   go_simp
   with_reducible rfl
  rotate_left
  ·simp only [Act.put, Za, Zb, Zc, i64_w, i32_w]
   rfl
  refine done_ (by kernel_rfl) ?_
  have m11_0 : w11.cell? ⟨gX, 0, none⟩ = some (.int .i64 t) := (blk_cell hst11.px 0).trans rfl
  have m11_1 : w11.cell? ⟨gX, 1, none⟩ = some (.int .i64 s) := (blk_cell hst11.px 1).trans rfl
  have m11_2 : w11.cell? ⟨gX, 2, none⟩ = some (.slice X2 a.length x2) := (blk_cell hst11.px 2).trans rfl
  have m11_3 : w11.cell? ⟨gX, 3, none⟩ = some (.slice X3 b.length x3) := (blk_cell hst11.px 3).trans rfl
  go_wp2_with (first
   | (go_at_call 23; (with_reducible refine (mark1 t s X2 x2 a X3 x3 b w11 (gW + 1) (fun k => k < gX) hst11.leX hst11.rX (by have := hS.lb; omega) hXl.out hTXq.out).mono ?_); go_loud (
     rintro e w12 ⟨rfl, hR12, hK12⟩
     have hst12 := hst11.markX hK12 hR12 (mB_length _ _) (mR_length _ _)
     clear hR12 hK12
     have m12_0 : w12.cell? ⟨gW, 0, none⟩ = some (.int .i64 RR.t) := (blk_cell hst12.pw 0).trans rfl
     have m12_1 : w12.cell? ⟨gW, 1, none⟩ = some (.int .i64 RR.s) := (blk_cell hst12.pw 1).trans rfl
     have m12_2 : w12.cell? ⟨gW, 2, none⟩ = some (.slice W2 RR.a.length v2) := (blk_cell hst12.pw 2).trans rfl
     have m12_3 : w12.cell? ⟨gW, 3, none⟩ = some (.slice W3 RR.b.length v3) := (blk_cell hst12.pw 3).trans rfl
     have k12_0 : w12.cell? ⟨gG, 0, none⟩ = some (.int .i64 RR.t) := (blk_cell hst12.pg 0).trans rfl
     have k12_1 : w12.cell? ⟨gG, 1, none⟩ = some (.int .i64 RR.s) := (blk_cell hst12.pg 1).trans rfl
     have k12_2 : w12.cell? ⟨gG, 2, none⟩ = some (.slice G2 RR.a.length y2) := (blk_cell hst12.pg 2).trans rfl
     have k12_3 : w12.cell? ⟨gG, 3, none⟩ = some (.slice G3 RR.b.length y3) := (blk_cell hst12.pg 3).trans rfl))
   | (go_at_call 16; (with_reducible refine (eq_same RR.t RR.s G2 y2 RR.a G3 y3 RR.b W2 v2 W3 v3 w12 (rel_arg hst12.rG) (rel_arg hst12.rW) hF.out.small).mono ?_); go_loud (
     rintro e w13 ⟨rfl, hb13⟩
     have hst13 := hst12.below hb13
     have k13_0 : w13.cell? ⟨gG, 0, none⟩ = some (.int .i64 RR.t) := (blk_cell hst13.pg 0).trans rfl
     have k13_1 : w13.cell? ⟨gG, 1, none⟩ = some (.int .i64 RR.s) := (blk_cell hst13.pg 1).trans rfl
     have k13_2 : w13.cell? ⟨gG, 2, none⟩ = some (.slice G2 RR.a.length y2) := (blk_cell hst13.pg 2).trans rfl
     have k13_3 : w13.cell? ⟨gG, 3, none⟩ = some (.slice G3 RR.b.length y3) := (blk_cell hst13.pg 3).trans rfl))
   | (go_at_call 23; (with_reducible refine (mark1 RR.t RR.s G2 y2 RR.a G3 y3 RR.b w13 (gX + 1) (fun k => k < gG) hst13.leG hst13.rG (by have := hF.out.b; omega) hGl.out hTGq.out).mono ?_); go_loud (
     rintro e w14 ⟨rfl, hR14, hK14⟩
     have hst14 := hst13.markG hK14 hR14 (mB_length _ _) (mR_length _ _)
     clear hR14 hK14
     have k14_0 : w14.cell? ⟨gG, 0, none⟩ = some (.int .i64 RR.t) := (blk_cell hst14.pg 0).trans rfl
     have k14_1 : w14.cell? ⟨gG, 1, none⟩ = some (.int .i64 RR.s) := (blk_cell hst14.pg 1).trans rfl
     have k14_2 : w14.cell? ⟨gG, 2, none⟩ = some (.slice G2 RR.a.length y2) := (blk_cell hst14.pg 2).trans rfl
     have k14_3 : w14.cell? ⟨gG, 3, none⟩ = some (.slice G3 RR.b.length y3) := (blk_cell hst14.pg 3).trans rfl))
   | (go_at_call 24; (with_reducible refine (held1 RR.a.length RR.t RR.s G2 y2 G3 y3 RR.b w14 (hst14.heldB) (hst14.heldR) (by have := hF.out.b; omega) hGl.out hTGq.out).mono ?_); go_loud (
     rintro e w15 ⟨rfl, hb15⟩
     have hst15 := hst14.below hb15
     have m15_0 : w15.cell? ⟨w.heap.size, 0, none⟩ = some (.int .i64 t) := (blk_cell hst15.p 0).trans rfl
     have m15_1 : w15.cell? ⟨w.heap.size, 1, none⟩ = some (.int .i64 s) := (blk_cell hst15.p 1).trans rfl
     have m15_2 : w15.cell? ⟨w.heap.size, 2, none⟩ = some (.slice A2 a.length c2) := (blk_cell hst15.p 2).trans rfl
     have m15_3 : w15.cell? ⟨w.heap.size, 3, none⟩ = some (.slice A3 b.length c3) := (blk_cell hst15.p 3).trans rfl))
   | (go_at_call 14; (with_reducible refine (laws_toRelation.calls kt t s A2 c2 a A3 c3 b _ _ _ _ w15 (hA.below hst15.bel).r2 hA.l2 (hA.below hst15.bel).r3 hA.l3 htr.out).mono ?_); go_loud (
     rintro e w16 ⟨q2, q3, rfl, r2, r3, hb16⟩
     obtain ⟨Z2, k2, e2⟩ := Kd.R_slice r2
     subst e2
     obtain ⟨Z3, k3, e3⟩ := Kd.S_slice r3
     subst e3
     have hst16 := hst15.below hb16
     have hA16 : Arg w16 Z2 k2 a Z3 k3 b := ⟨(Kd.R_reads' r2).2.2, (Kd.R_reads' r2).2.1, (Kd.S_reads' r3).2.2, (Kd.S_reads' r3).2.1⟩
     clear r2 r3))
   | (go_at_call 44; (
     have q := impl_OutputsIn t s Z2 k2 a Z3 k3 b _ hA16 hS (glob_below hG2.out hst16.bel)
     rw [hRq.out] at q
     with_reducible refine q.mono ?_
     clear q); go_loud (
     rintro e w17 ⟨H2, z2, H3, z3, rfl, hRH, hb17⟩
     have hb17a : Below w17.heap.size w17 (w17.alloc (.cells #[.int .i64 RR.t, .int .i64 RR.s, .slice H2 RR.a.length z2, .slice H3 RR.b.length z3] 29)) := below_alloc (Below.refl _ _) _
     have hst17 := (hst16.below hb17).below hb17a
     have hH17 := rel_arg (hRH.below hb17a)
     clear hRH
     have m17_0 : (w17.alloc (.cells #[.int .i64 RR.t, .int .i64 RR.s, .slice H2 RR.a.length z2, .slice H3 RR.b.length z3] 29)).cell? ⟨gW, 0, none⟩ = some (.int .i64 RR.t) := (blk_cell hst17.pw 0).trans rfl
     have m17_1 : (w17.alloc (.cells #[.int .i64 RR.t, .int .i64 RR.s, .slice H2 RR.a.length z2, .slice H3 RR.b.length z3] 29)).cell? ⟨gW, 1, none⟩ = some (.int .i64 RR.s) := (blk_cell hst17.pw 1).trans rfl
     have m17_2 : (w17.alloc (.cells #[.int .i64 RR.t, .int .i64 RR.s, .slice H2 RR.a.length z2, .slice H3 RR.b.length z3] 29)).cell? ⟨gW, 2, none⟩ = some (.slice W2 RR.a.length v2) := (blk_cell hst17.pw 2).trans rfl
     have m17_3 : (w17.alloc (.cells #[.int .i64 RR.t, .int .i64 RR.s, .slice H2 RR.a.length z2, .slice H3 RR.b.length z3] 29)).cell? ⟨gW, 3, none⟩ = some (.slice W3 RR.b.length v3) := (blk_cell hst17.pw 3).trans rfl))
   | (go_at_call 16; (with_reducible refine (eq_same RR.t RR.s H2 z2 RR.a H3 z3 RR.b W2 v2 W3 v3 (w17.alloc (.cells #[.int .i64 RR.t, .int .i64 RR.s, .slice H2 RR.a.length z2, .slice H3 RR.b.length z3] 29)) hH17 (rel_arg hst17.rW) hF.out.small).mono ?_); go_loud (
     rintro e w18 ⟨rfl, hb18⟩
     have hst18 := hst17.below hb18
     have k18_0 : w18.cell? ⟨gG, 0, none⟩ = some (.int .i64 RR.t) := (blk_cell hst18.pg 0).trans rfl
     have k18_1 : w18.cell? ⟨gG, 1, none⟩ = some (.int .i64 RR.s) := (blk_cell hst18.pg 1).trans rfl
     have k18_2 : w18.cell? ⟨gG, 2, none⟩ = some (.slice G2 RR.a.length y2) := (blk_cell hst18.pg 2).trans rfl
     have k18_3 : w18.cell? ⟨gG, 3, none⟩ = some (.slice G3 RR.b.length y3) := (blk_cell hst18.pg 3).trans rfl))
   | (go_at_call 24; (with_reducible refine (held1 RR.a.length RR.t RR.s G2 y2 G3 y3 RR.b w18 (hst18.heldB) (hst18.heldR) (by have := hF.out.b; omega) hGl.out hTGq.out).mono ?_); go_loud (
     rintro e w19 ⟨rfl, hb19⟩
     have hst19 := hst18.below hb19)))
  go_ret
  exact ⟨rfl, hst19.bel⟩
end Go.Proofs.YtbamnonamdpooaaDoor.LwO
namespace Go.Proofs.YtbamnonamdpooaaDoor.WFnExactOutputsIn
set_option linter.unusedVariables false
set_option linter.unusedSimpArgs false
open Go.RowKit Go.Proofs.YtbamnonamdpooaaDoorW.PrintWords Tid
theorem glob_of_laid {W : World} (h : laidMetH Tryd.prog Rows.fnExactOutputsInRow.laid W) : Glob W := by
 rw [MakeChecks.laidMetH_plain _ _ _ (by kernel_rfl)] at h
 have h2 := h.filter (fun x => x.1 == "internal/strconv.uint64pow10")
 exact Lib.tabIs_of_head (g := 0) (t := 214) (e := 207) (n := 20) (rest := []) (by kernel_rfl) (by kernel_rfl) (by kernel_rfl) (by kernel_rfl) (by kernel_rfl) (by kernel_rfl) h2
abbrev kRel : Kd (Int × Int × List Bool × List (List Int)) := Kd.pair (Kd.int .i64) (Kd.pair (Kd.int .i64) (Kd.pair (Kd.slice 4 Kd.bool) (Kd.slice 86 (Kd.slice 2 (Kd.int .i64)))))
theorem kRel_open {W : World} {y : Int × Int × List Bool × List (List Int)} {l : List Value} (h : kRel.K W y l) : ∃ A1 c1 A2 c2, l = [.int .i64 y.1, .int .i64 y.2.1, .slice A1 y.2.2.1.length c1, .slice A2 y.2.2.2.length c2] ∧ Go.Proofs.YtbamnonamdpooaaDoor.Lr.Arg W A1 c1 y.2.2.1 A2 c2 y.2.2.2 := by
 obtain ⟨_, _, rfl, rfl, ⟨_, _, rfl, rfl, ⟨_, _, rfl, ⟨A1, c1, rfl, h1, r1⟩, ⟨A2, c2, rfl, h2, r2⟩⟩⟩⟩ := h
 exact ⟨A1, c1, A2, c2, rfl, r1, h1, r2, h2⟩
theorem walk (W : World) (hG : Glob W) (l0 : List Value) (y0 : Int × Int × List Bool × List (List Int)) (k0 : kRel.K W y0 l0) (b0 : (Lit.int .i64 y0.1).wf = true ∧ (Lit.int .i64 y0.2.1).wf = true ∧ (y0.2.2.1.length ≤ 9223372036854775807 ∧ ∀ z ∈ y0.2.2.1, True) ∧ (y0.2.2.2.length ≤ 9223372036854775807 ∧ ∀ z ∈ y0.2.2.2, (z.length ≤ 9223372036854775807 ∧ ∀ z' ∈ z, (Lit.int .i64 z').wf = true))) :
  Calls Tryd.prog 11 #[.agg l0.toArray] W fun e W' => e = .returned (.bool true) ∧ Below W.heap.size W W' := by
 obtain ⟨A1, c1, A2, c2, rfl, hA⟩ := kRel_open k0
 exact Go.Proofs.YtbamnonamdpooaaDoor.LwO.law_calls y0.1 y0.2.1 A1 c1 y0.2.2.1 A2 c2 y0.2.2.2 W hA hG b0.2.2.1.1 b0.2.2.2.1 (fun r hr => (b0.2.2.2.2 r hr).1)
end Go.Proofs.YtbamnonamdpooaaDoor.WFnExactOutputsIn
namespace Go.Proofs.YtbamnonamdpooaaDoor.Reads
set_option linter.unusedVariables false
set_option linter.unusedSimpArgs false
open Go.RowKit Go.Deep Go.Proofs.YtbamnonamdpooaaDoorW.PrintWords
/-- Whatever is read at type t is of kind d, and B holds of it. -/
def Opens (P : Program) (t : TypeId) {α : Type} (d : Kd α) (B : α → Prop) : Prop :=
 P.cellsOf t = d.sz ∧ ∀ (H : Type) (enc : TypeId × Value → H) (w : World) (spare : Nat → Bool) (held : Bool) (fuel : Nat) (cs : List Value) (x : DataW H × List MemPlace),
  DataW.trod enc P w 0 spare held fuel t cs = some x → ∃ y, d.K w y cs ∧ B y
variable {P : Program} {t e : TypeId}
theorem opens_int {k : IntKind} (ht : P.underlying t = some (.int k)) (hc : P.cellsOf t = 1) : Opens P t (Kd.int k) (fun n => (Lit.int k n).wf = true) :=
 ⟨hc, fun H enc w spare held fuel cs x h => by
  obtain ⟨n, rfl, _, hw⟩ := DataW.trod_int ht h
  exact ⟨n, rfl, hw⟩⟩
theorem opens_bool (ht : P.underlying t = some .bool) (hc : P.cellsOf t = 1) : Opens P t Kd.bool (fun _ => True) :=
 ⟨hc, fun H enc w spare held fuel cs x h => by
  obtain ⟨b, rfl, _⟩ := DataW.trod_bool ht h
  exact ⟨b, rfl, trivial⟩⟩
theorem opens_slice {α : Type} {d : Kd α} {B : α → Prop} (ht : P.underlying t = some (.slice e)) (hc : P.cellsOf t = 1) (he : Opens P e d B) : Opens P t (Kd.slice e d) (fun l => l.length ≤ 9223372036854775807 ∧ ∀ x ∈ l, B x) :=
 ⟨hc, fun H enc w spare held fuel cs x h => by
  rcases open_slice ht h with ⟨rfl, _⟩ | ⟨a, len, cap, m, n, D, Pl, rfl, _, hl, hm, hmm, _, hx⟩
  ·exact ⟨[], ⟨none, 0, rfl, Nat.le_refl _, rfl, by simp, fun h => by simp at h⟩, by simp, by simp⟩
  ·have hlm : len ≤ m := by rw [hmm]; split <;> omega
   obtain ⟨hs, hr⟩ := he
   have hex : ∀ i, i < len → ∃ y, B y ∧ ∃ c, c.length = d.sz ∧ d.K w y c ∧ ∀ k u, c[k]? = some u → w.cell? (a.add (i * d.sz + k)) = some u := by
    intro i hi
    obtain ⟨c, h1, h2⟩ := hx i (by omega)
    obtain ⟨_, hcl, hcell⟩ := World.cells?_some h1
    obtain ⟨y, hy, hB⟩ := hr H enc w spare held n c _ h2
    refine ⟨y, hB, c, by rw [hcl, hs], hy, fun k u hu => ?_⟩
    have hk : k < P.cellsOf e := by rw [← hcl]; exact (List.getElem?_eq_some_iff.1 hu).1
    have := hcell k hk
    rw [hu] at this
    rw [← this, hs]
    have ea : ∀ (b : Addr) (x y : Nat), (b.add x).add y = b.add (x + y) := fun b x y => by
     unfold Addr.add
     by_cases hx0 : x = 0 <;> by_cases hy0 : y = 0 <;> simp [hx0, hy0, Nat.add_assoc]
    rw [ea]
   clear hx
   have key : ∀ n, n ≤ len → ∃ l : List α, l.length = n ∧ ∀ i, (hi : i < l.length) → B l[i] ∧ ∃ c, c.length = d.sz ∧ d.K w l[i] c ∧ ∀ k u, c[k]? = some u → w.cell? (a.add (i * d.sz + k)) = some u := by
    intro n
    induction n with
    | zero => intro _; exact ⟨[], rfl, fun i hi => by simp at hi⟩
    | succ n ih =>
     intro hn
     obtain ⟨l, hl1, hl2⟩ := ih (by omega)
     obtain ⟨y, hB, hy⟩ := hex n (by omega)
     refine ⟨l ++ [y], by simp [hl1], fun i hi => ?_⟩
     by_cases h' : i < l.length
     ·rw [List.getElem_append_left h']
      exact hl2 i h'
     ·have : i = l.length := by simp at hi; omega
      subst this
      simp only [List.getElem_append_right (Nat.le_refl _), Nat.sub_self, List.getElem_cons_zero]
      rw [hl1]
      exact ⟨hB, hy⟩
   obtain ⟨l, hl1, hl2⟩ := key len (Nat.le_refl _)
   unfold maxLen at hm
   refine ⟨l, ⟨some a, cap, by rw [hl1], by omega, rfl, by omega, fun _ => ⟨a, rfl, fun j p hp => ?_⟩⟩, by omega, fun x hx => ?_⟩
   ·obtain ⟨hj, rfl⟩ := List.getElem?_eq_some_iff.1 hp
    exact (hl2 j hj).2
   ·obtain ⟨i, hi, rfl⟩ := List.mem_iff_getElem.1 hx
    exact (hl2 i hi).1⟩
/-! Fields in line: 'At o cs' is what stands from o on. -/
set_option linter.unusedVariables false in
def Fields (P : Program) : List Field → Nat → (α : Type) → Kd α → (α → Prop) → Prop
 | [], _, _, _, _ => False
 | [f], o, α, d, B => f.offset = o ∧ Opens P f.type d B
 | f :: g :: fs, o, α, d, B => ∃ (β γ : Type) (b : Kd β) (c : Kd γ) (B1 : β → Prop) (B2 : γ → Prop) (h : α = (β × γ)), f.offset = o ∧ Opens P f.type b B1 ∧ Fields P (g :: fs) (o + b.sz) γ c B2 ∧
   h ▸ d = Kd.pair b c ∧ ∀ x, B x ↔ B1 (cast h x).1 ∧ B2 (cast h x).2
theorem fields_one {α : Type} {d : Kd α} {B : α → Prop} {f : Field} {o : Nat} (ho : f.offset = o) (h : Opens P f.type d B) : Fields P [f] o α d B := ⟨ho, h⟩
theorem fields_cons {β γ : Type} {b : Kd β} {c : Kd γ} {B1 : β → Prop} {B2 : γ → Prop} {f g : Field} {fs : List Field} {o : Nat} (ho : f.offset = o) (h : Opens P f.type b B1) (hr : Fields P (g :: fs) (o + b.sz) γ c B2) :
  Fields P (f :: g :: fs) o (β × γ) (Kd.pair b c) (fun x => B1 x.1 ∧ B2 x.2) := ⟨β, γ, b, c, B1, B2, rfl, ho, h, hr, rfl, fun _ => Iff.rfl⟩
theorem fields_read : ∀ (fs : List Field) (o : Nat) (α : Type) (d : Kd α) (B : α → Prop), Fields P fs o α d B → ∀ (H : Type) (enc : TypeId × Value → H) (w : World) (spare : Nat → Bool) (held : Bool) (n : Nat) (cs : List Value) (xs : List (DataW H × List MemPlace)),
  cs.length = o + d.sz → xs.length = fs.length → (∀ (i : Nat) (f : Field), fs[i]? = some f → DataW.trod enc P w 0 spare held n f.type ((cs.drop f.offset).take (P.cellsOf f.type)) = xs[i]?) → ∃ y, d.K w y (cs.drop o) ∧ B y
 | [], _, _, _, _, h => h.elim
 | [f], o, α, d, B, h => by
  obtain ⟨rfl, h⟩ := h
  intro H enc w spare held n cs xs hl hx hf
  have h0 := hf 0 f rfl
  obtain ⟨x, hx0⟩ : ∃ x, xs[0]? = some x := ⟨_, List.getElem?_eq_getElem (by rw [hx]; simp)⟩
  rw [hx0] at h0
  obtain ⟨y, hy, hB⟩ := h.2 H enc w spare held n _ _ h0
  refine ⟨y, ?_, hB⟩
  rw [List.take_of_length_le (by rw [h.1, List.length_drop, hl]; omega)] at hy
  exact hy
 | f :: g :: fs, o, α, d, B, h => by
  obtain ⟨β, γ, b, c, B1, B2, rfl, rfl, h1, h2, rfl, hB⟩ := h
  intro H enc w spare held n cs xs hl hx hf
  have h0 := hf 0 f rfl
  obtain ⟨x, hx0⟩ : ∃ x, xs[0]? = some x := ⟨_, List.getElem?_eq_getElem (by rw [hx]; simp)⟩
  rw [hx0] at h0
  obtain ⟨y, hy, hB1⟩ := h1.2 H enc w spare held n _ _ h0
  obtain ⟨z, hz, hB2⟩ := fields_read (g :: fs) (f.offset + b.sz) γ c B2 h2 H enc w spare held n cs (xs.drop 1) (by rw [hl]; show _ + (b.sz + c.sz) = _; omega) (by simp [hx]) (fun i f' hi => by
   rw [List.getElem?_drop, Nat.add_comm 1 i]
   exact hf (i + 1) f' (by simpa using hi))
  refine ⟨(y, z), ⟨_, _, ?_, hy, hz⟩, (hB (y, z)).2 ⟨hB1, hB2⟩⟩
  rw [h1.1, ← List.drop_drop, List.take_append_drop]
theorem opens_struct {α : Type} {d : Kd α} {B : α → Prop} {fs : Array Field} (ht : P.underlying t = some (.struct fs)) (hc : P.cellsOf t = d.sz) (h : Fields P fs.toList 0 α d B) : Opens P t d B :=
 ⟨hc, fun H enc w spare held fuel cs x hx => by
  obtain ⟨xs, n, _, _, hl, hlen, hf⟩ := DataW.trod_struct ht hx
  obtain ⟨y, hy, hB⟩ := fields_read fs.toList 0 α d B h H enc w spare held n cs xs (by rw [hl, hc]; omega) (by simpa using hlen) (fun i f hi => hf i f (by simpa using hi))
  exact ⟨y, hy, hB⟩⟩
/-- An argument: what it is made of. -/
theorem opens_arg {α : Type} {d : Kd α} {B : α → Prop} (h : Opens P t d B) {H : Type} {enc : TypeId × Value → H} {w : World} {spare : Nat → Bool} {held : Bool} {v : Value} {x : DataW H} {ps : List MemPlace}
  (hv : DataW.Trod enc P w 0 spare held t v x ps) : ∃ y, d.K w y v.cells.toList ∧ B y := by
 obtain ⟨fuel, hf⟩ := hv
 exact h.2 H enc w spare held fuel _ _ hf
end Go.Proofs.YtbamnonamdpooaaDoor.Reads
namespace Go.Proofs.YtbamnonamdpooaaDoor.LFnExactOutputsIn
open Go.ChangeShapes Go.WideShapes Go.ChangeAt Go.RowKit Go.Proofs.YtbamnonamdpooaaDoorW.PrintWords Reads PT3
open Go.ChangeMaps (open_string shut_string)
theorem own : ownKnob Tryd.prog.godebug = none := by kernel_rfl
theorem laidOut : laidOutB Tryd.prog = true := by kernel_rfl
/-- The door's own heap meets the condition. -/
theorem door_met (os : Os) (args : Array Value) : laidMetH Tryd.prog Rows.fnExactOutputsInRow.laid ((World.doorLaid Tryd.prog 72 os).forCall (fun _ _ => 0) ⟨#[], args, []⟩).memory :=
 laidMetH_of_parts3 (fuel := 8) (laidMet_of_run' 8 (by kernel_rfl) (by kernel_rfl)) (by kernel_rfl) (by kernel_rfl)
set_option maxRecDepth 100000 in
theorem lifted (os : Os) (started : os.Started) (H : Type) (enc : TypeId × Value → H) :
  ReturnsInHanded {} Tryd.checked os 11 .any (fun w args => (Rows.fnExactOutputsInSpec.pre enc Tryd.prog Tryd.f11 [] false w args ∧ laidMetH Tryd.prog Rows.fnExactOutputsInRow.laid w) ∧ sizedMet enc Tryd.prog Tryd.f11 (OpenSpec.ofChange Rows.fnExactOutputsInSpec) false w args)
   (Rows.fnExactOutputsInSpec.post enc Tryd.prog Tryd.f11 false true false false) := by
 refine returnsInHanded_of_change_and (C := Tryd.checked) (X := fun w _ => laidMetH Tryd.prog Rows.fnExactOutputsInRow.laid w) (fun _ _ _ hh h => h.of_heap hh) own started (by kernel_rfl) Tryd.func11
  (ChangeSpec.witness_shaped (enc := enc) (C := Tryd.checked) (os := os) (X := fun w _ => laidMetH Tryd.prog Rows.fnExactOutputsInRow.laid w) false (World.doorLaid Tryd.prog 72 os) #[.agg #[.int .i64 0, .int .i64 0, .slice none 0 0, .slice none 0 0]] 8 rfl (World.shaped_of_RefB (by kernel_rfl) (by kernel_rfl)) (by kernel_rfl) (by kernel_rfl) (by kernel_rfl) (door_met os _)) ?_
 intro W base args ds gs before hval0 hW hcnd hsz0 hL _
 have hval : ∀ (j : Nat) t v, Tryd.f11.params[j]? = some t → args[j]? = some v → Value.okWide Tryd.prog W .any base t v := hval0
 have hW' := hW
 obtain ⟨p, q, hA0, hV, rfl, hfz, hnd⟩ := hW
 have hA : DataW.TrodAll enc Tryd.prog W 0 (fun _ => true) true Tryd.f11.params.toList args.toList ds p := hA0
 rw [Tryd.params11] at hA hval
 obtain ⟨v0, vs0, d0, ds0, p0, q0, hargs, rfl, rfl, h0, r0⟩ := trodAll_cons hA
 obtain ⟨rfl, rfl, rfl⟩ := trodAll_nil r0
 obtain rfl : args = #[v0] := by cases args; simp_all
 obtain ⟨rfl, rfl⟩ := trodVars_none hV
 have k0 := h0
 have lt0 : ∀ x ∈ p0, x.block < W.heap.size := by obtain ⟨m, hm⟩ := k0; exact DataW.trod_lt m _ _ _ hm
 obtain ⟨y0, kk0, bb0⟩ := opens_arg (opens_struct Tryd.underlying25 (by kernel_rfl) (fields_cons rfl (opens_int Tryd.underlying2 (by kernel_rfl)) (fields_cons rfl (opens_int Tryd.underlying2 (by kernel_rfl)) (fields_cons rfl (opens_slice Tryd.underlying22 (by kernel_rfl) (opens_bool Tryd.underlying4 (by kernel_rfl))) (fields_one rfl (opens_slice Tryd.underlying23 (by kernel_rfl) (opens_slice Tryd.underlying86 (by kernel_rfl) (opens_int Tryd.underlying2 (by kernel_rfl))))))))) h0
 obtain ⟨ca0, rfl, _⟩ := okWide_struct Tryd.underlying25 (hval 0 25 v0 rfl rfl)
 obtain ⟨l0, rfl⟩ : ∃ l : List Value, ca0 = l.toArray := ⟨ca0.toList, by simp⟩
 replace kk0 : (Kd.pair (Kd.int .i64) (Kd.pair (Kd.int .i64) (Kd.pair (Kd.slice 4 Kd.bool) (Kd.slice 86 (Kd.slice 2 (Kd.int .i64)))))).K W y0 l0 := kk0
 clear hA0 hval0 hsz0
 refine (Go.Proofs.YtbamnonamdpooaaDoor.WFnExactOutputsIn.walk W (WFnExactOutputsIn.glob_of_laid hL) l0 y0 kk0 bb0).mono fun e W' ⟨he, bel⟩ => ?_
 subst he
 exact ⟨_, rfl, _, _, _, [], _, [], hW', trodAll_mk1 (shut_bool Tryd.underlying4 _), (trodAll_cons_mk (Below.trod laidOut (by kernel_rfl) (of_decide_eq_true (by kernel_rfl)) k0 bel lt0) trodAll_mk0), rfl, bel.frame _, fun h => by cases h⟩
theorem over : Rows.fnExactOutputsInRow.holds Tryd.pinned (OpenSpec.ofChange Rows.fnExactOutputsInSpec) :=
 OpenClaim.holds_of_wide 11 Tryd.f11 rfl rfl rfl rfl rfl rfl rfl ⟨rfl, rfl, rfl, rfl, rfl⟩ rfl rfl rfl rfl rfl (by kernel_rfl) Tryd.func11 (by kernel_rfl)
  (of_decide_eq_true (by kernel_rfl)) (by unfold Func.isWrapper; first | (rw [if_pos (by decide +kernel)]; kernel_rfl) | (rw [if_neg (by decide +kernel)]; exact ⟨rfl, rfl⟩))
  (fun os started H enc _ => lifted os started H enc)
theorem proved : Rows.FnExactOutputsInSaid := over
#print axioms proved
end Go.Proofs.YtbamnonamdpooaaDoor.LFnExactOutputsIn
namespace Go.Proofs.YtbamnonamdpooaaDoor
/-- The row, under a short name, for the claim. -/
theorem fnExactOutputsIn_holds : Rows.FnExactOutputsInSaid := LFnExactOutputsIn.proved
end Go.Proofs.YtbamnonamdpooaaDoor
