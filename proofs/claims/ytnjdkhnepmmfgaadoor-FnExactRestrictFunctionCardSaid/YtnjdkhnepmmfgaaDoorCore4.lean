/- Parts of the proof, put together by a program of the session. -/
import Derived.Test.YtnjdkhnepmmfgaaDoorCore0
import Derived.Test.YtnjdkhnepmmfgaaDoorCore3
import Derived.Test.YtnjdkhnepmmfgaaDoorCore2
import Derived.Test.YtnjdkhnepmmfgaaDoorProg
import Derived.Below
import Derived.Deep.Draws
import Derived.Deep.AppendLies
import Derived.Maps.AppendAt
import Derived.OwnWalk
import Derived.Laws.BytesArg
import Derived.Laws.MakeOwn
import Derived.Laws.OwnMore
import Derived.Deep.OwnRows
import Derived.Tactics
import Derived.Lib.ConvBytes
import Derived.Laws.Slices
import Derived.WalkKit
import Derived.KernelRfl
import Derived.RowKit3
import Derived.Deep.LoopGhost
import Derived.Deep.QuietTactic
import Derived.BigQuiet
import Derived.WideLaws
import Derived.Deep.DeepCutAuto
import Derived.Deep.CutBlock
import Derived.Deep.RegionHeld3
import Derived.Laws.Rows
import Derived.Lib.AppendStr
import Derived.ArgAppend
import Derived.Laws.IdiomCopy
import Derived.OrdersHeld
import Derived.Laws.BitsLemmas
import Derived.RowKit
import Derived.ChangeKeysEq
import Derived.Test.YtnjdkhnepmmfgaaDoorCWords
import Derived.Test.YtnjdkhnepmmfgaaDoorCLast
import Derived.Test.YtnjdkhnepmmfgaaDoorCTab
import Derived.Test.YtnjdkhnepmmfgaaDoorCFour
import Derived.Test.YtnjdkhnepmmfgaaDoorCQPut
import Derived.Test.YtnjdkhnepmmfgaaDoorCApart
import Derived.Test.YtnjdkhnepmmfgaaDoorCArr
import Derived.Test.YtnjdkhnepmmfgaaDoorCZeros
import Derived.Test.YtnjdkhnepmmfgaaDoorCFoot
import Derived.Test.YtnjdkhnepmmfgaaDoorCKept
import Derived.Test.YtnjdkhnepmmfgaaDoorCShare
import Derived.Test.YtnjdkhnepmmfgaaDoorCN
import Derived.Test.YtnjdkhnepmmfgaaDoorCFootNe
import Derived.Test.YtnjdkhnepmmfgaaDoorCAt
import Derived.Test.YtnjdkhnepmmfgaaDoorCEqStruct
import Derived.Test.YtnjdkhnepmmfgaaDoorCRepsOne
import Derived.Test.YtnjdkhnepmmfgaaDoorCInv
import Derived.Test.YtnjdkhnepmmfgaaDoorCInvWords
import Derived.Test.YtnjdkhnepmmfgaaDoorCGuard
import Derived.Test.YtnjdkhnepmmfgaaDoorCNEv
import Derived.Test.YtnjdkhnepmmfgaaDoorCMore
import Derived.Test.YtnjdkhnepmmfgaaDoorCore1
namespace Go.Proofs.YtnjdkhnepmmfgaaDoor.PT3
open Go.RowKit Go.Proofs.YtnjdkhnepmmfgaaDoorW.PrintWords Go.Proofs.YtnjdkhnepmmfgaaDoorW.PrintLast Go.Proofs.YtnjdkhnepmmfgaaDoorW.PrintMore PL1 Rw
attribute [local go_sem] max2_int min2_int max_two min_two max_three min_three max_four min_four   -- for this text's walks alone
set_option linter.unusedVariables false
set_option linter.unusedSimpArgs false
/-! ### laws_toBoolS: function 27 -/
def laws_toBoolS.l0 : Nat → List Bool → List Bool → Int → Option (List Bool)
 | 0, _, _, _ => none
 | k + 1, x0, x3, x4 => if x4 < (x0.length : Int) then (if 0 ≤ x4 then (if x4 < (x3.length : Int) then (laws_toBoolS.l0 k x0 (x3.set (x4 : Int).toNat (rdOf false x0 x4)) (wrap64 (x4 + 1))) else (none)) else (none)) else (some x3)
def laws_toBoolS.f (k : Nat) (l0 : List Bool) : Option (List Bool) := if 0 ≤ (l0.length : Int) then (if ((l0.length : Int) : Int).toNat ≤ 281474976710656 then (laws_toBoolS.l0 k l0 (List.replicate ((l0.length : Int) : Int).toNat false) 0) else (none)) else (none)
set_option maxHeartbeats 8000000 in
set_option maxRecDepth 100000 in
theorem laws_toBoolS.calls (k : Nat) (A0 : Option Addr) (c0 : Nat) (l0 : List Bool) (r : List Bool) (w : World) (hr0 : Kd.C Kd.bool w A0 l0.length l0) (hc0 : l0.length ≤ c0) (h : laws_toBoolS.f k l0 = some r) :
  Calls Tryd.prog 27 #[.slice A0 l0.length c0] w fun e w' => ∃ v0_ : Value, e = .returned (v0_) ∧ Kd.R Kd.bool 4 w' w.heap.size (fun _ => True) v0_ r ∧ Below w.heap.size w w' := by
 have HR0 := Aside0.mk hr0
 have HC0 := Aside0.mk hc0
 clear hr0 hc0
 have HB := Aside0.mk (Below.refl w.heap.size w)
 have H : (if 0 ≤ (l0.length : Int) then (if ((l0.length : Int) : Int).toNat ≤ 281474976710656 then (laws_toBoolS.l0 k l0 (List.replicate ((l0.length : Int) : Int).toNat false) 0) else (none)) else (none)) = some r := h
 clear h
 by_cases c2 : 0 ≤ (l0.length : Int)
 ·rw [if_pos c2] at H
  have c2b0 := eq_true c2
  have c2b1 : decide (0 ≤ (l0.length : Int)) = true := decide_eq_true c2
  clear c2
  by_cases c3 : ((l0.length : Int) : Int).toNat ≤ 281474976710656
  ·rw [if_pos c3] at H
   have c3b0 := eq_true c3
   have c3b1 : decide (((l0.length : Int) : Int).toNat ≤ 281474976710656) = true := decide_eq_true c3
   clear c3
   obtain ⟨y101, hy101⟩ : ∃ y_ : List Bool, y_ = (List.replicate ((l0.length : Int) : Int).toNat false) := ⟨_, rfl⟩
   replace H : (laws_toBoolS.l0 k l0 y101 0) = some r := by first | (rw [hy101]; with_reducible exact H) | (have H2_ := (Option.bind_some _ _).symm.trans H; rw [hy101]; with_reducible exact H2_) | (have H2_ := (Option.bind_some _ _).symm.trans H; with_reducible exact H2_) | with_reducible exact H | (rw [hy101]; exact H) | exact H
   have Ny101 := Aside0.mk hy101
   clear hy101
   have H' := Aside0.mk H
   clear H
   go_enter Tryd.func27, Tryd.ntmps27
   go_wp2_with (first | ((with_reducible refine gate_dst (N := 7) rfl ?_); refine Kd.R_make Kd.bool _ 4 rfl (N := 7) rfl 22 _ _ rfl (l0.length : Int) rfl rfl Tryd.underlying22 (.bool false) 1 info4 rfl (by decide) (by omega) false (ok := fun _ => True) (okp := fun _ => True) rfl (fun _ hk => hk) trivial (of_decide_eq_true (by first | (with_reducible assumption) | assumption)) (Nat.le_trans (Nat.mul_le_mul_right _ (of_decide_eq_true (by first | (with_reducible assumption) | assumption) : (l0.length : Int).toNat ≤ 281474976710656)) (by omega)) (Below.refl _ _) (Nat.le_refl _) ?_; intro v102 w4 ho5 hb hg_ hnew_; clear hg_ hnew_; (first | rw [← Ny101.out] at ho5 | (simp only [Int.reduceToNat] at ho5; rw [← Ny101.out] at ho5)); have n0_ := Aside0.mk (Kd.R_lower ho5 (below_size (by repeat (first | (with_reducible first | exact HB.out | apply below_alloc | apply pw_below_drewN | apply below_drew1) | exact HB.out)))); have n1_ := Aside0.mk (below_step (by repeat (first | (with_reducible first | exact HB.out | apply below_alloc | apply pw_below_drewN | apply below_drew1) | exact HB.out)) hb); clear HB; have HO103 := n0_; have HB := n1_; clear n0_ n1_; clear hb ho5))
   go_loopg [4] k (fun kq v4 w' => ∃ (x3_1 : List Bool) (x4_1 : Int), v4 = .int .i64 x4_1 ∧ Aside0 (laws_toBoolS.l0 kq l0 x3_1 x4_1 = some r) ∧ Aside0 (kq ≤ k) ∧ Aside0 (Kd.R Kd.bool 4 w' w.heap.size (fun _ => True) v102 x3_1) ∧ Aside0 (Below w.heap.size w w'))
   case atStart => exact ⟨(y101), (0), (by first | rfl | (simp; done) | (simp [*]; done) | (simp [wrap64]; done)), H', ⟨Nat.le_refl _⟩, ⟨by (with_reducible repeat (first | apply Kd.R_alloc | apply Kd.R_drewN | apply Kd.R_drew)); exact HO103.out⟩, ⟨by repeat (first | (with_reducible first | exact HB.out | apply below_alloc | apply pw_below_drewN | apply below_drew1) | exact HB.out)⟩⟩
   case round =>
    clear H'
    try clear c2
    try clear c2b0
    try clear c2b1
    try clear p2
    try clear c3
    try clear c3b0
    try clear c3b1
    obtain ⟨x3_1, x4_1, rfl, HA, HK1, HO_3, HB⟩ := hrel
    cases gk with
    | zero => exact absurd HA.out (by simp [laws_toBoolS.l0])
    | succ k1 =>
     have H := HA.out
     clear HA
     simp only [laws_toBoolS.l0] at H
     by_cases c6 : x4_1 < (l0.length : Int)
     ·rw [if_pos c6] at H
      have c6b0 : decide (x4_1 < (l0.length : Int)) = true := decide_eq_true c6
      clear c6
      by_cases c7 : 0 ≤ x4_1
      ·rw [if_pos c7] at H
       have c7b0 : decide (0 ≤ x4_1) = true := decide_eq_true c7
       clear c7
       by_cases c8 : x4_1 < (x3_1.length : Int)
       ·rw [if_pos c8] at H
        have c8b0 : decide (x4_1 < (x3_1.length : Int)) = true := decide_eq_true c8
        clear c8
        obtain ⟨y105, hy105⟩ : ∃ y_ : List Bool, y_ = (x3_1.set (x4_1 : Int).toNat (rdOf false l0 x4_1)) := ⟨_, rfl⟩
        replace H : (laws_toBoolS.l0 k1 l0 y105 (wrap64 (x4_1 + 1))) = some r := by first | (rw [hy105]; with_reducible exact H) | (have H2_ := (Option.bind_some _ _).symm.trans H; rw [hy105]; with_reducible exact H2_) | (have H2_ := (Option.bind_some _ _).symm.trans H; with_reducible exact H2_) | with_reducible exact H | (rw [hy105]; exact H) | exact H
        have Ny105 := Aside0.mk hy105
        clear hy105
        have H' := Aside0.mk H
        clear H
        have p104 : 0 ≤ (x4_1 : Int) := of_decide_eq_true (by first | (with_reducible assumption) | assumption)
        have q104 : x4_1 < (l0.length : Int) := of_decide_eq_true (by first | (with_reducible assumption) | assumption)
        obtain ⟨ad104, e104, hx104_0⟩ := Kd.at_bool HR0.out x4_1 p104 q104
        cases e104
        replace hx104_0 := (HB.out.cell (World.block_lt_of_cell? w _ hx104_0)).trans hx104_0
        replace p104 := eq_true p104
        replace q104 := eq_true q104
        have p9 : 0 ≤ (x4_1 : Int) := of_decide_eq_true (by first | (with_reducible assumption) | assumption)
        have q9 : (x4_1 : Int) < ((x3_1.length : Int) : Int) := of_decide_eq_true (by first | (with_reducible assumption) | assumption)
        obtain ⟨go9, co9, eo9, gb9, gl9, cl9, HG9⟩ := Kd.R_form HO_3.out (by omega)
        (first | cases eo9 | (injection eo9 with ea_ en_ ec_; (first | subst ea_ | (injection ea_ with ea_; subst ea_)); subst ec_; clear en_))
        have GB9 := Aside0.mk gb9
        have GG9 := Aside0.mk HG9
        clear gb9 gl9 HG9
        obtain ⟨hx9_0, hf9_0⟩ := Kd.R_celln false HO_3.out (x4_1 : Int) p9 q9
        replace p9 := eq_true p9
        replace q9 := eq_true q9
        have HP10 := Kd.R_putg HO_3.out (x4_1 : Int) (rdOf false l0 x4_1)
        go_wp2_with (first | ((with_reducible refine gate_store (t := 4) (p := 20) rfl ?_); refine store_event (t := 4) (p := 20) (v := ?vo_w11) (w1 := (wr.setCell ⟨go9, (x4_1 : Int).toNat, none⟩ (.bool (rdOf false l0 x4_1)))) ?hg ?ho ?hn ?hr ?_; (case ho => rfl); (case hg => rfl); (case hn => rfl); (case hr => first | (go_simp; done) | (go_simp; rfl)); intro w11 hw; have hg : wr.grownBy w11 (some go9) := (by rw [hw]; exact HP10.2); have hp_ : Kd.R Kd.bool 4 w11 w.heap.size (fun _ => True) (.slice (some ⟨go9, 0, none⟩) x3_1.length co9) y105 := (by rw [hw, Ny105.out]; exact HP10.1); clear HP10; have n0_ := Aside0.mk (hp_); have n1_ := Aside0.mk ((by rw [hw]; exact below_set (HB.out) GB9.out : Below w.heap.size w w11)); clear HO_3; clear HB; have HO_3 := n0_; have HB := n1_; clear n0_ n1_; clear hg hw hp_))
        go_roundg k1
        case measure => have := HK1.out; omega
        case rel => exact ⟨(y105), (wrap64 (x4_1 + 1)), (by first | rfl | (simp; done) | (simp [*]; done) | (simp [wrap64]; done)), H', ⟨by have := HK1.out; omega⟩, ⟨by (with_reducible repeat (first | apply Kd.R_alloc | apply Kd.R_drewN | apply Kd.R_drew)); exact HO_3.out⟩, ⟨by repeat (first | (with_reducible first | exact HB.out | apply below_alloc | apply pw_below_drewN | apply below_drew1) | exact HB.out)⟩⟩
       ·rw [if_neg c8] at H
        exact absurd H (by simp)
      ·rw [if_neg c7] at H
       exact absurd H (by simp)
     ·rw [if_neg c6] at H
      have c6b0 : decide (x4_1 < (l0.length : Int)) = false := decide_eq_false c6
      clear c6
      obtain rfl := Option.some.inj H
      simp only [Option.some.injEq, Prod.mk.injEq] at H
      obtain ⟨rfl⟩ := H
      go_wp2
      go_ret
      exact ⟨_, by first | rfl | (simp [errW_none, errW_some] <;> rfl) | (simp [*, errW_none, errW_some] <;> rfl), by (with_reducible repeat (first | apply Kd.R_alloc | apply Kd.R_drewN | apply Kd.R_drew)); exact HO_3.out, by repeat (first | (with_reducible first | exact HB.out | apply below_alloc | apply pw_below_drewN | apply below_drew1) | exact HB.out)⟩
  ·rw [if_neg c3] at H
   exact absurd H (by simp)
 ·rw [if_neg c2] at H
  exact absurd H (by simp)
/-! ### laws_toRelation: function 8 -/
def laws_toRelation.f (k : Nat) (a0_0 : Int) (a0_1 : Int) (l0_2 : List Bool) (l0_3 : List (List Int)) : Option (Int × Int × List Bool × (List (List Int))) := (laws_toBoolS.f k l0_2).bind fun t109 => ((laws_toInt64SS.f l0_3).bind fun t112 => (some (a0_0, a0_1, t109, t112)))
set_option maxHeartbeats 8000000 in
set_option maxRecDepth 100000 in
theorem laws_toRelation.calls (k : Nat) (a0_0 : Int) (a0_1 : Int) (A0_2 : Option Addr) (c0_2 : Nat) (l0_2 : List Bool) (A0_3 : Option Addr) (c0_3 : Nat) (l0_3 : List (List Int)) (r1 : Int) (r2 : Int) (r3 : List Bool) (r4 : List (List Int)) (w : World) (hr0_2 : Kd.C Kd.bool w A0_2 l0_2.length l0_2) (hc0_2 : l0_2.length ≤ c0_2) (hr0_3 : Kd.C (Kd.slice 2 (Kd.int .i64)) w A0_3 l0_3.length l0_3) (hc0_3 : l0_3.length ≤ c0_3) (h : laws_toRelation.f k a0_0 a0_1 l0_2 l0_3 = some (r1, r2, r3, r4)) :
  Calls Tryd.prog 8 #[.agg #[.int .i64 a0_0, .int .i64 a0_1, .slice A0_2 l0_2.length c0_2, .slice A0_3 l0_3.length c0_3]] w fun e w' => ∃ v2_ v3_ : Value, e = .returned (.agg #[.int .i64 r1, .int .i64 r2, v2_, v3_]) ∧ Kd.R Kd.bool 4 w' w.heap.size (fun _ => True) v2_ r3 ∧ Kd.S (Kd.slice 2 (Kd.int .i64)) 75 w' w.heap.size (fun _ => True) v3_ r4 ∧ Below w.heap.size w w' := by
 have hu25 := Tryd.underlying25
 have hu27 := Tryd.underlying27
 have HR0_2 := Aside0.mk hr0_2
 have HC0_2 := Aside0.mk hc0_2
 clear hr0_2 hc0_2
 have HR0_3 := Aside0.mk hr0_3
 have HC0_3 := Aside0.mk hc0_3
 clear hr0_3 hc0_3
 have HB := Aside0.mk (Below.refl w.heap.size w)
 have H : ((laws_toBoolS.f k l0_2).bind fun t109 => ((laws_toInt64SS.f l0_3).bind fun t112 => (some (a0_0, a0_1, t109, t112)))) = some (r1, r2, r3, r4) := h
 clear h
 replace H := Option.bind_eq_some_iff.mp H
 obtain ⟨t109, A20, H⟩ := H
 replace H : ((laws_toInt64SS.f l0_3).bind fun t112 => (some (a0_0, a0_1, t109, t112))) = some (r1, r2, r3, r4) := H
 have A2 := Aside0.mk A20
 clear A20
 replace H := Option.bind_eq_some_iff.mp H
 obtain ⟨t112, A30, H⟩ := H
 replace H : (some (a0_0, a0_1, t109, t112)) = some (r1, r2, r3, r4) := H
 have A3 := Aside0.mk A30
 clear A30
 simp only [Option.some.injEq, Prod.mk.injEq] at H
 obtain ⟨rfl, rfl, rfl, rfl⟩ := H
 go_enter Tryd.func8, Tryd.ntmps8
 go_wp2_with (first | ((with_reducible refine gate_dst (N := 1) rfl ?_); refine box_event ?hg (N := 1) ?hd (cs := #[.int .i64 a0_0, .int .i64 a0_1, .slice A0_2 l0_2.length c0_2, .slice A0_3 l0_3.length c0_3]) (t := 25) ?hr ?_; (case hd => rfl); (case hg => rfl); (case hr => first | (go_simp; done) | (go_simp; rfl)); intro gb106 hg w4 hbox hb; have n0_ := Aside0.mk (below_step (by repeat (first | (with_reducible first | exact HB.out | apply below_alloc | apply pw_below_drewN | apply below_drew1) | exact HB.out)) hb); have n1_ := Aside0.mk (hbox); have n2_ := Aside0.mk ((by rw [hg]; exact (below_size (by repeat (first | (with_reducible first | exact HB.out | apply below_alloc | apply pw_below_drewN | apply below_drew1) | exact HB.out))) : w.heap.size ≤ gb106)); have n3_ := Aside0.mk ((by rw [hg]; exact (below_size (by repeat (first | (with_reducible first | exact HB.out | apply below_alloc | apply pw_below_drewN | apply below_drew1) | exact HB.out))) : w.heap.size ≤ gb106)); clear HB; have HB := n0_; have BK106 := n1_; have GW106 := n2_; have GE106 := n3_; clear n0_ n1_ n2_ n3_; clear hb hbox hg) | ((with_reducible refine gate_dst (N := 2) rfl ?_); refine box_event ?hg (N := 2) ?hd (cs := #[.int .i64 0, .int .i64 0, .slice none 0 0, .slice none 0 0]) (t := 27) ?hr ?_; (case hd => rfl); (case hg => rfl); (case hr => first | (go_simp; done) | (go_simp; rfl)); intro gb107 hg w5 hbox hb; have n0_ := Aside0.mk (blk_below (g := gb106) (o := .cells #[.int .i64 a0_0, .int .i64 a0_1, .slice A0_2 l0_2.length c0_2, .slice A0_3 l0_3.length c0_3] 25 (0, 0)) (by (with_reducible repeat (first | refine blk_drewN ?_ _ | refine blk_drew ?_ | refine blk_alloc ?_ _)); exact BK106.out) hb); have n1_ := Aside0.mk (below_step (by repeat (first | (with_reducible first | exact HB.out | apply below_alloc | apply pw_below_drewN | apply below_drew1 | refine below_set ?_ GE106.out) | exact HB.out)) hb); have n2_ := Aside0.mk (hbox); have n3_ := Aside0.mk ((by rw [hg]; exact (below_size (by repeat (first | (with_reducible first | exact HB.out | apply below_alloc | apply pw_below_drewN | apply below_drew1 | refine below_set ?_ GE106.out) | exact HB.out))) : w.heap.size ≤ gb107)); have n4_ := Aside0.mk ((by rw [hg]; exact (below_size (by repeat (first | (with_reducible first | exact HB.out | apply below_alloc | apply pw_below_drewN | apply below_drew1 | refine below_set ?_ GE106.out) | exact HB.out))) : w.heap.size ≤ gb107)); have n5_ := Aside0.mk ((by rw [hg]; exact Nat.ne_of_lt (blk_lt (g := gb106) (o := .cells #[.int .i64 a0_0, .int .i64 a0_1, .slice A0_2 l0_2.length c0_2, .slice A0_3 l0_3.length c0_3] 25 (0, 0)) (by (with_reducible repeat (first | refine blk_drewN ?_ _ | refine blk_drew ?_ | refine blk_alloc ?_ _)); exact BK106.out)) : gb106 ≠ gb107)); have n6_ := Aside0.mk ((by rw [hg]; exact Nat.ne_of_gt (blk_lt (g := gb106) (o := .cells #[.int .i64 a0_0, .int .i64 a0_1, .slice A0_2 l0_2.length c0_2, .slice A0_3 l0_3.length c0_3] 25 (0, 0)) (by (with_reducible repeat (first | refine blk_drewN ?_ _ | refine blk_drew ?_ | refine blk_alloc ?_ _)); exact BK106.out)) : gb107 ≠ gb106)); clear BK106; clear HB; have BK106 := n0_; have HB := n1_; have BK107 := n2_; have GW107 := n3_; have GE107 := n4_; have NB106_107 := n5_; have NB107_106 := n6_; clear n0_ n1_ n2_ n3_ n4_ n5_ n6_; clear hb hbox hg) | ((with_reducible refine gate_dst (N := 3) rfl ?_); refine box_event ?hg (N := 3) ?hd (cs := #[.int .i64 0, .int .i64 0, .slice none 0 0, .slice none 0 0]) (t := 27) ?hr ?_; (case hd => rfl); (case hg => rfl); (case hr => first | (go_simp; done) | (go_simp; rfl)); intro gb108 hg w6 hbox hb; have n0_ := Aside0.mk (blk_below (g := gb106) (o := .cells #[.int .i64 a0_0, .int .i64 a0_1, .slice A0_2 l0_2.length c0_2, .slice A0_3 l0_3.length c0_3] 25 (0, 0)) (by (with_reducible repeat (first | refine blk_drewN ?_ _ | refine blk_drew ?_ | refine blk_alloc ?_ _)); exact BK106.out) hb); have n1_ := Aside0.mk (blk_below (g := gb107) (o := .cells #[.int .i64 0, .int .i64 0, .slice none 0 0, .slice none 0 0] 27 (0, 0)) (by (with_reducible repeat (first | refine blk_drewN ?_ _ | refine blk_drew ?_ | refine blk_alloc ?_ _)); exact BK107.out) hb); have n2_ := Aside0.mk (below_step (by repeat (first | (with_reducible first | exact HB.out | apply below_alloc | apply pw_below_drewN | apply below_drew1 | refine below_set ?_ GE106.out | refine below_set ?_ GE107.out) | exact HB.out)) hb); have n3_ := Aside0.mk (hbox); have n4_ := Aside0.mk ((by rw [hg]; exact (below_size (by repeat (first | (with_reducible first | exact HB.out | apply below_alloc | apply pw_below_drewN | apply below_drew1 | refine below_set ?_ GE106.out | refine below_set ?_ GE107.out) | exact HB.out))) : w.heap.size ≤ gb108)); have n5_ := Aside0.mk ((by rw [hg]; exact (below_size (by repeat (first | (with_reducible first | exact HB.out | apply below_alloc | apply pw_below_drewN | apply below_drew1 | refine below_set ?_ GE106.out | refine below_set ?_ GE107.out) | exact HB.out))) : w.heap.size ≤ gb108)); have n6_ := Aside0.mk ((by rw [hg]; exact Nat.ne_of_lt (blk_lt (g := gb106) (o := .cells #[.int .i64 a0_0, .int .i64 a0_1, .slice A0_2 l0_2.length c0_2, .slice A0_3 l0_3.length c0_3] 25 (0, 0)) (by (with_reducible repeat (first | refine blk_drewN ?_ _ | refine blk_drew ?_ | refine blk_alloc ?_ _)); exact BK106.out)) : gb106 ≠ gb108)); have n7_ := Aside0.mk ((by rw [hg]; exact Nat.ne_of_gt (blk_lt (g := gb106) (o := .cells #[.int .i64 a0_0, .int .i64 a0_1, .slice A0_2 l0_2.length c0_2, .slice A0_3 l0_3.length c0_3] 25 (0, 0)) (by (with_reducible repeat (first | refine blk_drewN ?_ _ | refine blk_drew ?_ | refine blk_alloc ?_ _)); exact BK106.out)) : gb108 ≠ gb106)); have n8_ := Aside0.mk ((by rw [hg]; exact Nat.ne_of_lt (blk_lt (g := gb107) (o := .cells #[.int .i64 0, .int .i64 0, .slice none 0 0, .slice none 0 0] 27 (0, 0)) (by (with_reducible repeat (first | refine blk_drewN ?_ _ | refine blk_drew ?_ | refine blk_alloc ?_ _)); exact BK107.out)) : gb107 ≠ gb108)); have n9_ := Aside0.mk ((by rw [hg]; exact Nat.ne_of_gt (blk_lt (g := gb107) (o := .cells #[.int .i64 0, .int .i64 0, .slice none 0 0, .slice none 0 0] 27 (0, 0)) (by (with_reducible repeat (first | refine blk_drewN ?_ _ | refine blk_drew ?_ | refine blk_alloc ?_ _)); exact BK107.out)) : gb108 ≠ gb107)); clear BK106; clear BK107; clear HB; have BK106 := n0_; have BK107 := n1_; have HB := n2_; have BK108 := n3_; have GW108 := n4_; have GE108 := n5_; have NB106_108 := n6_; have NB108_106 := n7_; have NB107_108 := n8_; have NB108_107 := n9_; clear n0_ n1_ n2_ n3_ n4_ n5_ n6_ n7_ n8_ n9_; clear hb hbox hg; have hnb7 := NB106_107.out; have hnc7 := NB107_106.out; have hnb8 := NB106_108.out; have hnc8 := NB108_106.out; have hcz9_0 : w6.cell? ⟨gb106, 0, none⟩ = some (.int .i64 a0_0) := (blk_cell BK106.out 0).trans rfl; have hcz9_1 : w6.cell? ⟨gb106, 1, none⟩ = some (.int .i64 a0_1) := (blk_cell BK106.out 1).trans rfl; have hcz9_2 : w6.cell? ⟨gb106, 2, none⟩ = some (.slice A0_2 l0_2.length c0_2) := (blk_cell BK106.out 2).trans rfl; have hcz9_3 : w6.cell? ⟨gb106, 3, none⟩ = some (.slice A0_3 l0_3.length c0_3) := (blk_cell BK106.out 3).trans rfl; have hfz9_0 := blk_frozen BK106.out 0; have hfz9_1 := blk_frozen BK106.out 1; have hfz9_2 := blk_frozen BK106.out 2; have hfz9_3 := blk_frozen BK106.out 3; have hnb10 := NB108_107.out; have hnc10 := NB107_108.out; have hcz11_0 : w6.cell? ⟨gb108, 0, none⟩ = some (.int .i64 0) := (blk_cell BK108.out 0).trans rfl; have hcz11_1 : w6.cell? ⟨gb108, 1, none⟩ = some (.int .i64 0) := (blk_cell BK108.out 1).trans rfl; have hcz11_2 : w6.cell? ⟨gb108, 2, none⟩ = some (.slice none 0 0) := (blk_cell BK108.out 2).trans rfl; have hcz11_3 : w6.cell? ⟨gb108, 3, none⟩ = some (.slice none 0 0) := (blk_cell BK108.out 3).trans rfl; have hfz11_0 := blk_frozen BK108.out 0; have hfz11_1 := blk_frozen BK108.out 1; have hfz11_2 := blk_frozen BK108.out 2; have hfz11_3 := blk_frozen BK108.out 3) | ((with_reducible refine gate_callee (f := 27) rfl ?_); refine goesL_ (some 12) rfl rfl Tryd.func27 (by kernel_rfl) rfl #[.slice A0_2 l0_2.length c0_2] rfl (by (try simp only [List.map_toArray, List.map_cons, List.map_nil]); first | done | rfl | (simp only [List.length_drop, List.length_take]; rfl)) ?_; (with_reducible refine (laws_toBoolS.calls k _ _ l0_2 t109 _ ?side1 ?side2 A2.out).mono ?_); (case side1 => exact Kd.C_below HR0_2.out (by repeat (first | (with_reducible first | exact HB.out | apply below_alloc | apply pw_below_drewN | apply below_drew1 | refine below_set ?_ GE106.out | refine below_set ?_ GE107.out | refine below_set ?_ GE108.out) | exact HB.out))); (case side2 => exact HC0_2.out); rintro e w12 ⟨v110, rfl, ho0, hb⟩; refine ⟨_, rfl, ?_⟩; have n0_ := Aside0.mk (Kd.R_lower ho0 (below_size (by repeat (first | (with_reducible first | exact HB.out | apply below_alloc | apply pw_below_drewN | apply below_drew1 | refine below_set ?_ GE106.out | refine below_set ?_ GE107.out | refine below_set ?_ GE108.out) | exact HB.out)))); have n1_ := Aside0.mk (blk_below (g := gb106) (o := .cells #[.int .i64 a0_0, .int .i64 a0_1, .slice A0_2 l0_2.length c0_2, .slice A0_3 l0_3.length c0_3] 25 (0, 0)) (by (with_reducible repeat (first | refine blk_drewN ?_ _ | refine blk_drew ?_ | refine blk_alloc ?_ _)); refine blk_far ?_ NB106_108.out _; (with_reducible repeat (first | refine blk_drewN ?_ _ | refine blk_drew ?_ | refine blk_alloc ?_ _)); refine blk_far ?_ NB106_108.out _; (with_reducible repeat (first | refine blk_drewN ?_ _ | refine blk_drew ?_ | refine blk_alloc ?_ _)); exact BK106.out) hb); have n2_ := Aside0.mk (blk_below (g := gb107) (o := .cells #[.int .i64 0, .int .i64 0, .slice none 0 0, .slice none 0 0] 27 (0, 0)) (by (with_reducible repeat (first | refine blk_drewN ?_ _ | refine blk_drew ?_ | refine blk_alloc ?_ _)); refine blk_far ?_ NB107_108.out _; (with_reducible repeat (first | refine blk_drewN ?_ _ | refine blk_drew ?_ | refine blk_alloc ?_ _)); refine blk_far ?_ NB107_108.out _; (with_reducible repeat (first | refine blk_drewN ?_ _ | refine blk_drew ?_ | refine blk_alloc ?_ _)); exact BK107.out) hb); have n3_ := Aside0.mk (blk_below (g := gb108) (o := .cells #[.int .i64 a0_0, .int .i64 a0_1, .slice none 0 0, .slice none 0 0] 27 (0, 0)) (by (with_reducible repeat (first | refine blk_drewN ?_ _ | refine blk_drew ?_ | refine blk_alloc ?_ _)); refine blk_put (cs := #[.int .i64 a0_0, .int .i64 0, .slice none 0 0, .slice none 0 0]) ?_ 1 _ rfl; (with_reducible repeat (first | refine blk_drewN ?_ _ | refine blk_drew ?_ | refine blk_alloc ?_ _)); refine blk_put (cs := #[.int .i64 0, .int .i64 0, .slice none 0 0, .slice none 0 0]) ?_ 0 _ rfl; (with_reducible repeat (first | refine blk_drewN ?_ _ | refine blk_drew ?_ | refine blk_alloc ?_ _)); exact BK108.out) hb); have n4_ := Aside0.mk (below_step (by repeat (first | (with_reducible first | exact HB.out | apply below_alloc | apply pw_below_drewN | apply below_drew1 | refine below_set ?_ GE106.out | refine below_set ?_ GE107.out | refine below_set ?_ GE108.out) | exact HB.out)) hb); clear BK106; clear BK107; clear BK108; clear HB; have HO111 := n0_; have BK106 := n1_; have BK107 := n2_; have BK108 := n3_; have HB := n4_; clear n0_ n1_ n2_ n3_ n4_; (try clear hb); (try clear hb2); (try clear hk); (try clear hi); (try clear ho0); obtain ⟨Ao13, co13, eo13⟩ := Kd.R_slice HO111.out; subst eo13; have hcz14_0 : w12.cell? ⟨gb108, 0, none⟩ = some (.int .i64 a0_0) := (blk_cell BK108.out 0).trans rfl; have hcz14_1 : w12.cell? ⟨gb108, 1, none⟩ = some (.int .i64 a0_1) := (blk_cell BK108.out 1).trans rfl; have hcz14_2 : w12.cell? ⟨gb108, 2, none⟩ = some (.slice none 0 0) := (blk_cell BK108.out 2).trans rfl; have hcz14_3 : w12.cell? ⟨gb108, 3, none⟩ = some (.slice none 0 0) := (blk_cell BK108.out 3).trans rfl; have hfz14_0 := blk_frozen BK108.out 0; have hfz14_1 := blk_frozen BK108.out 1; have hfz14_2 := blk_frozen BK108.out 2; have hfz14_3 := blk_frozen BK108.out 3; have hcz15_0 : w12.cell? ⟨gb106, 0, none⟩ = some (.int .i64 a0_0) := (blk_cell BK106.out 0).trans rfl; have hcz15_1 : w12.cell? ⟨gb106, 1, none⟩ = some (.int .i64 a0_1) := (blk_cell BK106.out 1).trans rfl; have hcz15_2 : w12.cell? ⟨gb106, 2, none⟩ = some (.slice A0_2 l0_2.length c0_2) := (blk_cell BK106.out 2).trans rfl; have hcz15_3 : w12.cell? ⟨gb106, 3, none⟩ = some (.slice A0_3 l0_3.length c0_3) := (blk_cell BK106.out 3).trans rfl; have hfz15_0 := blk_frozen BK106.out 0; have hfz15_1 := blk_frozen BK106.out 1; have hfz15_2 := blk_frozen BK106.out 2; have hfz15_3 := blk_frozen BK106.out 3) | ((with_reducible refine gate_callee (f := 28) rfl ?_); refine goesL_ (some 16) rfl rfl Tryd.func28 (by kernel_rfl) rfl #[.slice A0_3 l0_3.length c0_3] rfl (by (try simp only [List.map_toArray, List.map_cons, List.map_nil]); first | done | rfl | (simp only [List.length_drop, List.length_take]; rfl)) ?_; (with_reducible refine (laws_toInt64SS.calls _ _ l0_3 t112 _ ?side1 ?side2 A3.out).mono ?_); (case side1 => exact Kd.C_below HR0_3.out (by repeat (first | (with_reducible first | exact HB.out | apply below_alloc | apply pw_below_drewN | apply below_drew1 | refine below_set ?_ GE106.out | refine below_set ?_ GE107.out | refine below_set ?_ GE108.out) | exact HB.out))); (case side2 => exact HC0_3.out); rintro e w16 ⟨v113, rfl, ho0, hb⟩; refine ⟨_, rfl, ?_⟩; have n0_ := Aside0.mk (Kd.R_below (by (with_reducible repeat (first | apply Kd.R_alloc | apply Kd.R_drewN | apply Kd.R_drew)); exact (Kd.R_mono (Kd.R_far (p := ⟨gb108, 2, none⟩) (Kd.R_types HO111.out BK108.out (by decide)) (fun _ hk => hk.2) (.slice Ao13 t109.length co13)) (fun _ h_ => h_.1))) hb); have n1_ := Aside0.mk (Kd.S_lower ho0 (below_size (by repeat (first | (with_reducible first | exact HB.out | apply below_alloc | apply pw_below_drewN | apply below_drew1 | refine below_set ?_ GE106.out | refine below_set ?_ GE107.out | refine below_set ?_ GE108.out) | exact HB.out)))); have n2_ := Aside0.mk (blk_below (g := gb106) (o := .cells #[.int .i64 a0_0, .int .i64 a0_1, .slice A0_2 l0_2.length c0_2, .slice A0_3 l0_3.length c0_3] 25 (0, 0)) (by (with_reducible repeat (first | refine blk_drewN ?_ _ | refine blk_drew ?_ | refine blk_alloc ?_ _)); refine blk_far ?_ NB106_108.out _; (with_reducible repeat (first | refine blk_drewN ?_ _ | refine blk_drew ?_ | refine blk_alloc ?_ _)); exact BK106.out) hb); have n3_ := Aside0.mk (blk_below (g := gb107) (o := .cells #[.int .i64 0, .int .i64 0, .slice none 0 0, .slice none 0 0] 27 (0, 0)) (by (with_reducible repeat (first | refine blk_drewN ?_ _ | refine blk_drew ?_ | refine blk_alloc ?_ _)); refine blk_far ?_ NB107_108.out _; (with_reducible repeat (first | refine blk_drewN ?_ _ | refine blk_drew ?_ | refine blk_alloc ?_ _)); exact BK107.out) hb); have n4_ := Aside0.mk (blk_below (g := gb108) (o := .cells #[.int .i64 a0_0, .int .i64 a0_1, .slice Ao13 t109.length co13, .slice none 0 0] 27 (0, 0)) (by (with_reducible repeat (first | refine blk_drewN ?_ _ | refine blk_drew ?_ | refine blk_alloc ?_ _)); refine blk_put (cs := #[.int .i64 a0_0, .int .i64 a0_1, .slice none 0 0, .slice none 0 0]) ?_ 2 _ rfl; (with_reducible repeat (first | refine blk_drewN ?_ _ | refine blk_drew ?_ | refine blk_alloc ?_ _)); exact BK108.out) hb); have n5_ := Aside0.mk (below_step (by repeat (first | (with_reducible first | exact HB.out | apply below_alloc | apply pw_below_drewN | apply below_drew1 | refine below_set ?_ GE106.out | refine below_set ?_ GE107.out | refine below_set ?_ GE108.out) | exact HB.out)) hb); clear HO111; clear BK106; clear BK107; clear BK108; clear HB; have HO111 := n0_; have HO114 := n1_; have BK106 := n2_; have BK107 := n3_; have BK108 := n4_; have HB := n5_; clear n0_ n1_ n2_ n3_ n4_ n5_; (try clear hb); (try clear hb2); (try clear hk); (try clear hi); (try clear ho0); obtain ⟨Ao17, co17, eo17⟩ := Kd.S_slice HO114.out; subst eo17; have hcz18_0 : w16.cell? ⟨gb108, 0, none⟩ = some (.int .i64 a0_0) := (blk_cell BK108.out 0).trans rfl; have hcz18_1 : w16.cell? ⟨gb108, 1, none⟩ = some (.int .i64 a0_1) := (blk_cell BK108.out 1).trans rfl; have hcz18_2 : w16.cell? ⟨gb108, 2, none⟩ = some (.slice Ao13 t109.length co13) := (blk_cell BK108.out 2).trans rfl; have hcz18_3 : w16.cell? ⟨gb108, 3, none⟩ = some (.slice none 0 0) := (blk_cell BK108.out 3).trans rfl; have hfz18_0 := blk_frozen BK108.out 0; have hfz18_1 := blk_frozen BK108.out 1; have hfz18_2 := blk_frozen BK108.out 2; have hfz18_3 := blk_frozen BK108.out 3; have hcz19_0 : w16.cell? ⟨gb107, 0, none⟩ = some (.int .i64 0) := (blk_cell BK107.out 0).trans rfl; have hcz19_1 : w16.cell? ⟨gb107, 1, none⟩ = some (.int .i64 0) := (blk_cell BK107.out 1).trans rfl; have hcz19_2 : w16.cell? ⟨gb107, 2, none⟩ = some (.slice none 0 0) := (blk_cell BK107.out 2).trans rfl; have hcz19_3 : w16.cell? ⟨gb107, 3, none⟩ = some (.slice none 0 0) := (blk_cell BK107.out 3).trans rfl; have hfz19_0 := blk_frozen BK107.out 0; have hfz19_1 := blk_frozen BK107.out 1; have hfz19_2 := blk_frozen BK107.out 2; have hfz19_3 := blk_frozen BK107.out 3))
 refine bodyPost_ret (results_cell_row rfl _ _ gb107 27 #[.int .i64 a0_0, .int .i64 a0_1, .slice Ao13 t109.length co13, .slice Ao17 t112.length co17] (0, 0) _ rfl (by (with_reducible repeat (first | refine blk_drewN ?_ _ | refine blk_drew ?_ | refine blk_alloc ?_ _)); refine blk_put (cs := #[.int .i64 a0_0, .int .i64 a0_1, .slice Ao13 t109.length co13, .slice none 0 0]) ?_ 3 _ rfl; (with_reducible repeat (first | refine blk_drewN ?_ _ | refine blk_drew ?_ | refine blk_alloc ?_ _)); refine blk_put (cs := #[.int .i64 a0_0, .int .i64 a0_1, .slice none 0 0, .slice none 0 0]) ?_ 2 _ rfl; (with_reducible repeat (first | refine blk_drewN ?_ _ | refine blk_drew ?_ | refine blk_alloc ?_ _)); refine blk_put (cs := #[.int .i64 a0_0, .int .i64 0, .slice none 0 0, .slice none 0 0]) ?_ 1 _ rfl; (with_reducible repeat (first | refine blk_drewN ?_ _ | refine blk_drew ?_ | refine blk_alloc ?_ _)); refine blk_put (cs := #[.int .i64 0, .int .i64 0, .slice none 0 0, .slice none 0 0]) ?_ 0 _ rfl; (with_reducible repeat (first | refine blk_drewN ?_ _ | refine blk_drew ?_ | refine blk_alloc ?_ _)); refine blk_far ?_ NB107_108.out _; (with_reducible repeat (first | refine blk_drewN ?_ _ | refine blk_drew ?_ | refine blk_alloc ?_ _)); exact BK107.out) Tryd.underlying27 rfl (by kernel_rfl)) rfl ?_
 exact ⟨_, _, by first | rfl | (simp [errW_none, errW_some] <;> rfl) | (simp [*, errW_none, errW_some] <;> rfl), by (with_reducible repeat (first | apply Kd.R_alloc | apply Kd.R_drewN | apply Kd.R_drew)); exact Kd.R_mono (Kd.R_far (p := ⟨gb107, 3, none⟩) (Kd.R_far (p := ⟨gb107, 2, none⟩) (Kd.R_far (p := ⟨gb107, 1, none⟩) (Kd.R_far (p := ⟨gb107, 0, none⟩) (Kd.R_far (p := ⟨gb108, 3, none⟩) (Kd.R_types (Kd.R_types HO111.out BK108.out (by decide)) BK107.out (by decide)) (fun _ hk => hk.1.2) (.slice Ao17 t112.length co17)) (fun _ hk => hk.2) (.int .i64 a0_0)) (fun _ hk => hk.2) (.int .i64 a0_1)) (fun _ hk => hk.2) (.slice Ao13 t109.length co13)) (fun _ hk => hk.2) (.slice Ao17 t112.length co17)) (fun _ hk => trivial), by (with_reducible repeat (first | apply Kd.S_alloc | apply Kd.S_drewN | apply Kd.S_drew)); exact Kd.S_mono (Kd.S_far (p := ⟨gb107, 3, none⟩) (Kd.S_far (p := ⟨gb107, 2, none⟩) (Kd.S_far (p := ⟨gb107, 1, none⟩) (Kd.S_far (p := ⟨gb107, 0, none⟩) (Kd.S_far (p := ⟨gb108, 3, none⟩) (Kd.S_types (Kd.S_types HO114.out BK108.out (by decide)) BK107.out (by decide)) (fun _ hk => hk.1.2) (.slice Ao17 t112.length co17)) (fun _ hk => hk.2) (.int .i64 a0_0)) (fun _ hk => hk.2) (.int .i64 a0_1)) (fun _ hk => hk.2) (.slice Ao13 t109.length co13)) (fun _ hk => hk.2) (.slice Ao17 t112.length co17)) (fun _ hk => trivial), by repeat (first | (with_reducible first | exact HB.out | apply below_alloc | apply pw_below_drewN | apply below_drew1 | refine below_set ?_ GE106.out | refine below_set ?_ GE107.out | refine below_set ?_ GE108.out) | exact HB.out)⟩
/-! ### laws_szBoolS: function 22 -/
def laws_szBoolS.f (l0 : List Bool) (a1 : Int) : Option (Int) := if (wrap64 (a1 - (l0.length : Int))) < 0 then (some (-1)) else (some (wrap64 (a1 - (l0.length : Int))))
set_option maxHeartbeats 8000000 in
set_option maxRecDepth 100000 in
theorem laws_szBoolS.calls (A0 : Option Addr) (c0 : Nat) (l0 : List Bool) (a1 : Int) (r : Int) (w : World) (hr0 : Kd.C Kd.bool w A0 l0.length l0) (hc0 : l0.length ≤ c0) (h : laws_szBoolS.f l0 a1 = some r) :
  Calls Tryd.prog 22 #[.slice A0 l0.length c0, .int .i64 a1] w fun e w' => e = .returned (.int .i64 r) ∧ Drawn0 w w' := by
 have HR0 := Aside0.mk hr0
 have HC0 := Aside0.mk hc0
 clear hr0 hc0
 have H : (if (wrap64 (a1 - (l0.length : Int))) < 0 then (some (-1)) else (some (wrap64 (a1 - (l0.length : Int))))) = some r := h
 clear h
 by_cases c3 : (wrap64 (a1 - (l0.length : Int))) < 0
 ·rw [if_pos c3] at H
  have c3b0 : decide ((wrap64 (a1 - (l0.length : Int))) < 0) = true := decide_eq_true c3
  clear c3
  obtain rfl := Option.some.inj H
  simp only [Option.some.injEq, Prod.mk.injEq] at H
  obtain ⟨rfl⟩ := H
  go_enter Tryd.func22, Tryd.ntmps22
  go_wp2
  go_ret
  exact ⟨by first | rfl | (simp; done) | (simp [*]; done) | (simp [wrap64]; done), by repeat (first | exact Drawn0.refl _ | apply Drawn0.step)⟩
 ·rw [if_neg c3] at H
  have c3b0 : decide ((wrap64 (a1 - (l0.length : Int))) < 0) = false := decide_eq_false c3
  clear c3
  obtain rfl := Option.some.inj H
  simp only [Option.some.injEq, Prod.mk.injEq] at H
  obtain ⟨rfl⟩ := H
  go_enter Tryd.func22, Tryd.ntmps22
  go_wp2
  go_ret
  exact ⟨by first | rfl | (simp; done) | (simp [*]; done) | (simp [wrap64]; done), by repeat (first | exact Drawn0.refl _ | apply Drawn0.step)⟩
/-! ### laws_szInt64S: function 64 -/
def laws_szInt64S.f (l0 : List Int) (a1 : Int) : Option (Int) := if (wrap64 (a1 - (l0.length : Int))) < 0 then (some (-1)) else (some (wrap64 (a1 - (l0.length : Int))))
set_option maxHeartbeats 8000000 in
set_option maxRecDepth 100000 in
theorem laws_szInt64S.calls (A0 : Option Addr) (c0 : Nat) (l0 : List Int) (a1 : Int) (r : Int) (w : World) (hr0 : Kd.C (Kd.int .i64) w A0 l0.length l0) (hc0 : l0.length ≤ c0) (h : laws_szInt64S.f l0 a1 = some r) :
  Calls Tryd.prog 64 #[.slice A0 l0.length c0, .int .i64 a1] w fun e w' => e = .returned (.int .i64 r) ∧ Drawn0 w w' := by
 have HR0 := Aside0.mk hr0
 have HC0 := Aside0.mk hc0
 clear hr0 hc0
 have H : (if (wrap64 (a1 - (l0.length : Int))) < 0 then (some (-1)) else (some (wrap64 (a1 - (l0.length : Int))))) = some r := h
 clear h
 by_cases c3 : (wrap64 (a1 - (l0.length : Int))) < 0
 ·rw [if_pos c3] at H
  have c3b0 : decide ((wrap64 (a1 - (l0.length : Int))) < 0) = true := decide_eq_true c3
  clear c3
  obtain rfl := Option.some.inj H
  simp only [Option.some.injEq, Prod.mk.injEq] at H
  obtain ⟨rfl⟩ := H
  go_enter Tryd.func64, Tryd.ntmps64
  go_wp2
  go_ret
  exact ⟨by first | rfl | (simp; done) | (simp [*]; done) | (simp [wrap64]; done), by repeat (first | exact Drawn0.refl _ | apply Drawn0.step)⟩
 ·rw [if_neg c3] at H
  have c3b0 : decide ((wrap64 (a1 - (l0.length : Int))) < 0) = false := decide_eq_false c3
  clear c3
  obtain rfl := Option.some.inj H
  simp only [Option.some.injEq, Prod.mk.injEq] at H
  obtain ⟨rfl⟩ := H
  go_enter Tryd.func64, Tryd.ntmps64
  go_wp2
  go_ret
  exact ⟨by first | rfl | (simp; done) | (simp [*]; done) | (simp [wrap64]; done), by repeat (first | exact Drawn0.refl _ | apply Drawn0.step)⟩
/-! ### laws_szInt64SS: function 23 -/
def laws_szInt64SS.l0 : Nat → List (List Int) → Int → Int → Option (Int)
 | 0, _, _, _ => none
 | k + 1, x0, x1, x5 => if x5 < (x0.length : Int) then (if 0 ≤ x5 then ((laws_szInt64S.f (rd_L2 x0 x5) x1).bind fun t116 => (if t116 < 0 then (some (-1)) else (laws_szInt64SS.l0 k x0 t116 (wrap64 (x5 + 1))))) else (none)) else (some x1)
def laws_szInt64SS.f (k : Nat) (l0 : List (List Int)) (a1 : Int) : Option (Int) := if (wrap64 (a1 - (l0.length : Int))) < 0 then (some (-1)) else (laws_szInt64SS.l0 k l0 (wrap64 (a1 - (l0.length : Int))) 0)
set_option maxHeartbeats 8000000 in
set_option maxRecDepth 100000 in
theorem laws_szInt64SS.calls (k : Nat) (A0 : Option Addr) (c0 : Nat) (l0 : List (List Int)) (a1 : Int) (r : Int) (w : World) (hr0 : Kd.C (Kd.slice 2 (Kd.int .i64)) w A0 l0.length l0) (hc0 : l0.length ≤ c0) (h : laws_szInt64SS.f k l0 a1 = some r) :
  Calls Tryd.prog 23 #[.slice A0 l0.length c0, .int .i64 a1] w fun e w' => e = .returned (.int .i64 r) ∧ Drawn0 w w' := by
 have HR0 := Aside0.mk hr0
 have HC0 := Aside0.mk hc0
 clear hr0 hc0
 have H : (if (wrap64 (a1 - (l0.length : Int))) < 0 then (some (-1)) else (laws_szInt64SS.l0 k l0 (wrap64 (a1 - (l0.length : Int))) 0)) = some r := h
 clear h
 by_cases c3 : (wrap64 (a1 - (l0.length : Int))) < 0
 ·rw [if_pos c3] at H
  have c3b0 : decide ((wrap64 (a1 - (l0.length : Int))) < 0) = true := decide_eq_true c3
  clear c3
  obtain rfl := Option.some.inj H
  simp only [Option.some.injEq, Prod.mk.injEq] at H
  obtain ⟨rfl⟩ := H
  go_enter Tryd.func23, Tryd.ntmps23
  go_wp2
  go_ret
  exact ⟨by first | rfl | (simp; done) | (simp [*]; done) | (simp [wrap64]; done), by repeat (first | exact Drawn0.refl _ | apply Drawn0.step)⟩
 ·rw [if_neg c3] at H
  have c3b0 : decide ((wrap64 (a1 - (l0.length : Int))) < 0) = false := decide_eq_false c3
  clear c3
  have H' := Aside0.mk H
  clear H
  go_enter Tryd.func23, Tryd.ntmps23
  go_wp2
  go_loopg [1, 5] k (fun kq v1 v5 w' => ∃ (x1_1 : Int) (x5_1 : Int), v1 = .int .i64 x1_1 ∧ v5 = .int .i64 x5_1 ∧ Aside0 (laws_szInt64SS.l0 kq l0 x1_1 x5_1 = some r) ∧ Aside0 (kq ≤ k) ∧ Drawn0 w w')
  case atStart => exact ⟨(wrap64 (a1 - (l0.length : Int))), (0), (by first | rfl | (simp; done) | (simp [*]; done) | (simp [wrap64]; done)), (by first | rfl | (simp; done) | (simp [*]; done) | (simp [wrap64]; done)), H', ⟨Nat.le_refl _⟩, by repeat (first | exact Drawn0.refl _ | apply Drawn0.step)⟩
  case round =>
   clear H'
   try clear c2
   try clear p2
   try clear c3
   try clear c3b0
   obtain ⟨x1_1, x5_1, rfl, rfl, HA, HK1, ⟨m1, rfl⟩⟩ := hrel
   cases gk with
   | zero => exact absurd HA.out (by simp [laws_szInt64SS.l0])
   | succ k1 =>
    have H := HA.out
    clear HA
    simp only [laws_szInt64SS.l0] at H
    by_cases c4 : x5_1 < (l0.length : Int)
    ·rw [if_pos c4] at H
     have c4b0 : decide (x5_1 < (l0.length : Int)) = true := decide_eq_true c4
     clear c4
     by_cases c5 : 0 ≤ x5_1
     ·rw [if_pos c5] at H
      have c5b0 : decide (0 ≤ x5_1) = true := decide_eq_true c5
      clear c5
      replace H := Option.bind_eq_some_iff.mp H
      obtain ⟨t116, A60, H⟩ := H
      replace H : (if t116 < 0 then (some (-1)) else (laws_szInt64SS.l0 k1 l0 t116 (wrap64 (x5_1 + 1)))) = some r := H
      have A6 := Aside0.mk A60
      clear A60
      by_cases c7 : t116 < 0
      ·rw [if_pos c7] at H
       have c7b0 : decide (t116 < 0) = true := decide_eq_true c7
       clear c7
       obtain rfl := Option.some.inj H
       simp only [Option.some.injEq, Prod.mk.injEq] at H
       obtain ⟨rfl⟩ := H
       have p115 : 0 ≤ (x5_1 : Int) := of_decide_eq_true (by first | (with_reducible assumption) | assumption)
       have q115 : x5_1 < (l0.length : Int) := of_decide_eq_true (by first | (with_reducible assumption) | assumption)
       obtain ⟨ad115, A115_0, c115_0, e115, hx115_0, hl115_0, hi115_0⟩ := at_L2 HR0.out x5_1 p115 q115
       cases e115
       have HR115_0 := Aside0.mk hi115_0
       have HC115_0 := Aside0.mk hl115_0
       clear hi115_0 hl115_0
       replace p115 := eq_true p115
       replace q115 := eq_true q115
       go_wp2_with (first | ((with_reducible refine gate_callee (f := 64) rfl ?_); refine goesL_ (some 23) rfl rfl Tryd.func64 (by kernel_rfl) rfl #[.slice A115_0 (rd_L2 l0 x5_1).length c115_0, .int .i64 x1_1] rfl (by (try simp only [List.map_toArray, List.map_cons, List.map_nil]); first | done | rfl | (simp only [List.length_drop, List.length_take]; rfl)) ?_; (with_reducible refine (laws_szInt64S.calls _ _ (rd_L2 l0 x5_1) x1_1 t116 _ ?side1 ?side2 A6.out).mono ?_); (case side1 => repeat (first | exact HR115_0.out | (with_reducible refine Kd.C_alloc ?_ _) | (with_reducible refine Kd.C_drewN ?_ _) | (with_reducible refine Kd.C_drew ?_))); (case side2 => exact HC115_0.out); rintro e w' ⟨rfl, ⟨nd, rfl⟩⟩; refine ⟨_, rfl, ?_⟩))
       go_ret
       exact ⟨by first | rfl | (simp; done) | (simp [*]; done) | (simp [wrap64]; done), by repeat (first | exact Drawn0.refl _ | apply Drawn0.step)⟩
      ·rw [if_neg c7] at H
       have c7b0 : decide (t116 < 0) = false := decide_eq_false c7
       clear c7
       have H' := Aside0.mk H
       clear H
       have p115 : 0 ≤ (x5_1 : Int) := of_decide_eq_true (by first | (with_reducible assumption) | assumption)
       have q115 : x5_1 < (l0.length : Int) := of_decide_eq_true (by first | (with_reducible assumption) | assumption)
       obtain ⟨ad115, A115_0, c115_0, e115, hx115_0, hl115_0, hi115_0⟩ := at_L2 HR0.out x5_1 p115 q115
       cases e115
       have HR115_0 := Aside0.mk hi115_0
       have HC115_0 := Aside0.mk hl115_0
       clear hi115_0 hl115_0
       replace p115 := eq_true p115
       replace q115 := eq_true q115
       go_wp2_with (first | ((with_reducible refine gate_callee (f := 64) rfl ?_); refine goesL_ (some 23) rfl rfl Tryd.func64 (by kernel_rfl) rfl #[.slice A115_0 (rd_L2 l0 x5_1).length c115_0, .int .i64 x1_1] rfl (by (try simp only [List.map_toArray, List.map_cons, List.map_nil]); first | done | rfl | (simp only [List.length_drop, List.length_take]; rfl)) ?_; (with_reducible refine (laws_szInt64S.calls _ _ (rd_L2 l0 x5_1) x1_1 t116 _ ?side1 ?side2 A6.out).mono ?_); (case side1 => repeat (first | exact HR115_0.out | (with_reducible refine Kd.C_alloc ?_ _) | (with_reducible refine Kd.C_drewN ?_ _) | (with_reducible refine Kd.C_drew ?_))); (case side2 => exact HC115_0.out); rintro e w' ⟨rfl, ⟨nd, rfl⟩⟩; refine ⟨_, rfl, ?_⟩))
       go_roundg k1
       case measure => have := HK1.out; omega
       case rel => exact ⟨(t116), (wrap64 (x5_1 + 1)), (by first | rfl | (simp; done) | (simp [*]; done) | (simp [wrap64]; done)), (by first | rfl | (simp; done) | (simp [*]; done) | (simp [wrap64]; done)), H', ⟨by have := HK1.out; omega⟩, by repeat (first | exact Drawn0.refl _ | apply Drawn0.step)⟩
     ·rw [if_neg c5] at H
      exact absurd H (by simp)
    ·rw [if_neg c4] at H
     have c4b0 : decide (x5_1 < (l0.length : Int)) = false := decide_eq_false c4
     clear c4
     obtain rfl := Option.some.inj H
     simp only [Option.some.injEq, Prod.mk.injEq] at H
     obtain ⟨rfl⟩ := H
     go_wp2
     go_ret
     exact ⟨by first | rfl | (simp; done) | (simp [*]; done) | (simp [wrap64]; done), by repeat (first | exact Drawn0.refl _ | apply Drawn0.step)⟩
/-! ### laws_szRelation: function 6 -/
def laws_szRelation.f (k : Nat) (a0_0 : Int) (a0_1 : Int) (l0_2 : List Bool) (l0_3 : List (List Int)) (a1 : Int) : Option (Int) := (laws_szBoolS.f l0_2 a1).bind fun t118 => (if t118 < 0 then (some (-1)) else ((laws_szInt64SS.f k l0_3 t118).bind fun t119 => (if t119 < 0 then (some (-1)) else (some t119))))
set_option maxHeartbeats 8000000 in
set_option maxRecDepth 100000 in
theorem laws_szRelation.calls (k : Nat) (a0_0 : Int) (a0_1 : Int) (A0_2 : Option Addr) (c0_2 : Nat) (l0_2 : List Bool) (A0_3 : Option Addr) (c0_3 : Nat) (l0_3 : List (List Int)) (a1 : Int) (r : Int) (w : World) (hr0_2 : Kd.C Kd.bool w A0_2 l0_2.length l0_2) (hc0_2 : l0_2.length ≤ c0_2) (hr0_3 : Kd.C (Kd.slice 2 (Kd.int .i64)) w A0_3 l0_3.length l0_3) (hc0_3 : l0_3.length ≤ c0_3) (h : laws_szRelation.f k a0_0 a0_1 l0_2 l0_3 a1 = some r) :
  Calls Tryd.prog 6 #[.agg #[.int .i64 a0_0, .int .i64 a0_1, .slice A0_2 l0_2.length c0_2, .slice A0_3 l0_3.length c0_3], .int .i64 a1] w fun e w' => e = .returned (.int .i64 r) ∧ Below w.heap.size w w' := by
 have hu25 := Tryd.underlying25
 have HR0_2 := Aside0.mk hr0_2
 have HC0_2 := Aside0.mk hc0_2
 clear hr0_2 hc0_2
 have HR0_3 := Aside0.mk hr0_3
 have HC0_3 := Aside0.mk hc0_3
 clear hr0_3 hc0_3
 have HB := Aside0.mk (Below.refl w.heap.size w)
 have H : ((laws_szBoolS.f l0_2 a1).bind fun t118 => (if t118 < 0 then (some (-1)) else ((laws_szInt64SS.f k l0_3 t118).bind fun t119 => (if t119 < 0 then (some (-1)) else (some t119))))) = some r := h
 clear h
 replace H := Option.bind_eq_some_iff.mp H
 obtain ⟨t118, A30, H⟩ := H
 replace H : (if t118 < 0 then (some (-1)) else ((laws_szInt64SS.f k l0_3 t118).bind fun t119 => (if t119 < 0 then (some (-1)) else (some t119)))) = some r := H
 have A3 := Aside0.mk A30
 clear A30
 by_cases c4 : t118 < 0
 ·rw [if_pos c4] at H
  have c4b0 : decide (t118 < 0) = true := decide_eq_true c4
  clear c4
  obtain rfl := Option.some.inj H
  simp only [Option.some.injEq, Prod.mk.injEq] at H
  obtain ⟨rfl⟩ := H
  go_enter Tryd.func6, Tryd.ntmps6
  go_wp2_with (first | ((with_reducible refine gate_dst (N := 2) rfl ?_); refine box_event ?hg (N := 2) ?hd (cs := #[.int .i64 a0_0, .int .i64 a0_1, .slice A0_2 l0_2.length c0_2, .slice A0_3 l0_3.length c0_3]) (t := 25) ?hr ?_; (case hd => rfl); (case hg => rfl); (case hr => first | (go_simp; done) | (go_simp; rfl)); intro gb117 hg w5 hbox hb; have n0_ := Aside0.mk (below_step (by repeat (first | (with_reducible first | exact HB.out | apply below_alloc | apply pw_below_drewN | apply below_drew1) | exact HB.out)) hb); have n1_ := Aside0.mk (hbox); have n2_ := Aside0.mk ((by rw [hg]; exact (below_size (by repeat (first | (with_reducible first | exact HB.out | apply below_alloc | apply pw_below_drewN | apply below_drew1) | exact HB.out))) : w.heap.size ≤ gb117)); have n3_ := Aside0.mk ((by rw [hg]; exact (below_size (by repeat (first | (with_reducible first | exact HB.out | apply below_alloc | apply pw_below_drewN | apply below_drew1) | exact HB.out))) : w.heap.size ≤ gb117)); clear HB; have HB := n0_; have BK117 := n1_; have GW117 := n2_; have GE117 := n3_; clear n0_ n1_ n2_ n3_; clear hb hbox hg; have hcz6_0 : w5.cell? ⟨gb117, 0, none⟩ = some (.int .i64 a0_0) := (blk_cell BK117.out 0).trans rfl; have hcz6_1 : w5.cell? ⟨gb117, 1, none⟩ = some (.int .i64 a0_1) := (blk_cell BK117.out 1).trans rfl; have hcz6_2 : w5.cell? ⟨gb117, 2, none⟩ = some (.slice A0_2 l0_2.length c0_2) := (blk_cell BK117.out 2).trans rfl; have hcz6_3 : w5.cell? ⟨gb117, 3, none⟩ = some (.slice A0_3 l0_3.length c0_3) := (blk_cell BK117.out 3).trans rfl; have hfz6_0 := blk_frozen BK117.out 0; have hfz6_1 := blk_frozen BK117.out 1; have hfz6_2 := blk_frozen BK117.out 2; have hfz6_3 := blk_frozen BK117.out 3) | ((with_reducible refine gate_callee (f := 22) rfl ?_); refine goesL_ (some 8) rfl rfl Tryd.func22 (by kernel_rfl) rfl #[.slice A0_2 l0_2.length c0_2, .int .i64 a1] rfl (by (try simp only [List.map_toArray, List.map_cons, List.map_nil]); first | done | rfl | (simp only [List.length_drop, List.length_take]; rfl)) ?_; (with_reducible refine (laws_szBoolS.calls _ _ l0_2 a1 t118 _ ?side1 ?side2 A3.out).mono ?_); (case side1 => repeat (first | exact (Kd.C_below HR0_2.out HB.out) | (with_reducible refine Kd.C_alloc ?_ _) | (with_reducible refine Kd.C_drewN ?_ _) | (with_reducible refine Kd.C_drew ?_))); (case side2 => exact HC0_2.out); rintro e w' ⟨rfl, ⟨nd, rfl⟩⟩; refine ⟨_, rfl, ?_⟩))
  go_ret
  exact ⟨by first | rfl | (simp [errW_none, errW_some] <;> rfl) | (simp [*, errW_none, errW_some] <;> rfl), by repeat (first | (with_reducible first | exact HB.out | apply below_alloc | apply pw_below_drewN | apply below_drew1 | refine below_set ?_ GE117.out) | exact HB.out)⟩
 ·rw [if_neg c4] at H
  have c4b0 : decide (t118 < 0) = false := decide_eq_false c4
  clear c4
  replace H := Option.bind_eq_some_iff.mp H
  obtain ⟨t119, A70, H⟩ := H
  replace H : (if t119 < 0 then (some (-1)) else (some t119)) = some r := H
  have A7 := Aside0.mk A70
  clear A70
  by_cases c8 : t119 < 0
  ·rw [if_pos c8] at H
   have c8b0 : decide (t119 < 0) = true := decide_eq_true c8
   clear c8
   obtain rfl := Option.some.inj H
   simp only [Option.some.injEq, Prod.mk.injEq] at H
   obtain ⟨rfl⟩ := H
   go_enter Tryd.func6, Tryd.ntmps6
   go_wp2_with (first | ((with_reducible refine gate_dst (N := 2) rfl ?_); refine box_event ?hg (N := 2) ?hd (cs := #[.int .i64 a0_0, .int .i64 a0_1, .slice A0_2 l0_2.length c0_2, .slice A0_3 l0_3.length c0_3]) (t := 25) ?hr ?_; (case hd => rfl); (case hg => rfl); (case hr => first | (go_simp; done) | (go_simp; rfl)); intro gb117 hg w9 hbox hb; have n0_ := Aside0.mk (below_step (by repeat (first | (with_reducible first | exact HB.out | apply below_alloc | apply pw_below_drewN | apply below_drew1) | exact HB.out)) hb); have n1_ := Aside0.mk (hbox); have n2_ := Aside0.mk ((by rw [hg]; exact (below_size (by repeat (first | (with_reducible first | exact HB.out | apply below_alloc | apply pw_below_drewN | apply below_drew1) | exact HB.out))) : w.heap.size ≤ gb117)); have n3_ := Aside0.mk ((by rw [hg]; exact (below_size (by repeat (first | (with_reducible first | exact HB.out | apply below_alloc | apply pw_below_drewN | apply below_drew1) | exact HB.out))) : w.heap.size ≤ gb117)); clear HB; have HB := n0_; have BK117 := n1_; have GW117 := n2_; have GE117 := n3_; clear n0_ n1_ n2_ n3_; clear hb hbox hg; have hcz10_0 : w9.cell? ⟨gb117, 0, none⟩ = some (.int .i64 a0_0) := (blk_cell BK117.out 0).trans rfl; have hcz10_1 : w9.cell? ⟨gb117, 1, none⟩ = some (.int .i64 a0_1) := (blk_cell BK117.out 1).trans rfl; have hcz10_2 : w9.cell? ⟨gb117, 2, none⟩ = some (.slice A0_2 l0_2.length c0_2) := (blk_cell BK117.out 2).trans rfl; have hcz10_3 : w9.cell? ⟨gb117, 3, none⟩ = some (.slice A0_3 l0_3.length c0_3) := (blk_cell BK117.out 3).trans rfl; have hfz10_0 := blk_frozen BK117.out 0; have hfz10_1 := blk_frozen BK117.out 1; have hfz10_2 := blk_frozen BK117.out 2; have hfz10_3 := blk_frozen BK117.out 3) | ((with_reducible refine gate_callee (f := 22) rfl ?_); refine goesL_ (some 8) rfl rfl Tryd.func22 (by kernel_rfl) rfl #[.slice A0_2 l0_2.length c0_2, .int .i64 a1] rfl (by (try simp only [List.map_toArray, List.map_cons, List.map_nil]); first | done | rfl | (simp only [List.length_drop, List.length_take]; rfl)) ?_; (with_reducible refine (laws_szBoolS.calls _ _ l0_2 a1 t118 _ ?side1 ?side2 A3.out).mono ?_); (case side1 => repeat (first | exact (Kd.C_below HR0_2.out HB.out) | (with_reducible refine Kd.C_alloc ?_ _) | (with_reducible refine Kd.C_drewN ?_ _) | (with_reducible refine Kd.C_drew ?_))); (case side2 => exact HC0_2.out); rintro e w' ⟨rfl, ⟨nd, rfl⟩⟩; refine ⟨_, rfl, ?_⟩) | ((with_reducible refine gate_callee (f := 23) rfl ?_); refine goesL_ (some 14) rfl rfl Tryd.func23 (by kernel_rfl) rfl #[.slice A0_3 l0_3.length c0_3, .int .i64 t118] rfl (by (try simp only [List.map_toArray, List.map_cons, List.map_nil]); first | done | rfl | (simp only [List.length_drop, List.length_take]; rfl)) ?_; (with_reducible refine (laws_szInt64SS.calls k _ _ l0_3 t118 t119 _ ?side1 ?side2 A7.out).mono ?_); (case side1 => repeat (first | exact (Kd.C_below HR0_3.out (by repeat (first | (with_reducible first | exact HB.out | apply below_alloc | apply pw_below_drewN | apply below_drew1 | refine below_set ?_ GE117.out) | exact HB.out))) | (with_reducible refine Kd.C_alloc ?_ _) | (with_reducible refine Kd.C_drewN ?_ _) | (with_reducible refine Kd.C_drew ?_))); (case side2 => exact HC0_3.out); rintro e w' ⟨rfl, ⟨nd, rfl⟩⟩; refine ⟨_, rfl, ?_⟩))
   go_ret
   exact ⟨by first | rfl | (simp [errW_none, errW_some] <;> rfl) | (simp [*, errW_none, errW_some] <;> rfl), by repeat (first | (with_reducible first | exact HB.out | apply below_alloc | apply pw_below_drewN | apply below_drew1 | refine below_set ?_ GE117.out) | exact HB.out)⟩
  ·rw [if_neg c8] at H
   have c8b0 : decide (t119 < 0) = false := decide_eq_false c8
   clear c8
   obtain rfl := Option.some.inj H
   simp only [Option.some.injEq, Prod.mk.injEq] at H
   obtain ⟨rfl⟩ := H
   go_enter Tryd.func6, Tryd.ntmps6
   go_wp2_with (first | ((with_reducible refine gate_dst (N := 2) rfl ?_); refine box_event ?hg (N := 2) ?hd (cs := #[.int .i64 a0_0, .int .i64 a0_1, .slice A0_2 l0_2.length c0_2, .slice A0_3 l0_3.length c0_3]) (t := 25) ?hr ?_; (case hd => rfl); (case hg => rfl); (case hr => first | (go_simp; done) | (go_simp; rfl)); intro gb117 hg w11 hbox hb; have n0_ := Aside0.mk (below_step (by repeat (first | (with_reducible first | exact HB.out | apply below_alloc | apply pw_below_drewN | apply below_drew1) | exact HB.out)) hb); have n1_ := Aside0.mk (hbox); have n2_ := Aside0.mk ((by rw [hg]; exact (below_size (by repeat (first | (with_reducible first | exact HB.out | apply below_alloc | apply pw_below_drewN | apply below_drew1) | exact HB.out))) : w.heap.size ≤ gb117)); have n3_ := Aside0.mk ((by rw [hg]; exact (below_size (by repeat (first | (with_reducible first | exact HB.out | apply below_alloc | apply pw_below_drewN | apply below_drew1) | exact HB.out))) : w.heap.size ≤ gb117)); clear HB; have HB := n0_; have BK117 := n1_; have GW117 := n2_; have GE117 := n3_; clear n0_ n1_ n2_ n3_; clear hb hbox hg; have hcz12_0 : w11.cell? ⟨gb117, 0, none⟩ = some (.int .i64 a0_0) := (blk_cell BK117.out 0).trans rfl; have hcz12_1 : w11.cell? ⟨gb117, 1, none⟩ = some (.int .i64 a0_1) := (blk_cell BK117.out 1).trans rfl; have hcz12_2 : w11.cell? ⟨gb117, 2, none⟩ = some (.slice A0_2 l0_2.length c0_2) := (blk_cell BK117.out 2).trans rfl; have hcz12_3 : w11.cell? ⟨gb117, 3, none⟩ = some (.slice A0_3 l0_3.length c0_3) := (blk_cell BK117.out 3).trans rfl; have hfz12_0 := blk_frozen BK117.out 0; have hfz12_1 := blk_frozen BK117.out 1; have hfz12_2 := blk_frozen BK117.out 2; have hfz12_3 := blk_frozen BK117.out 3) | ((with_reducible refine gate_callee (f := 22) rfl ?_); refine goesL_ (some 8) rfl rfl Tryd.func22 (by kernel_rfl) rfl #[.slice A0_2 l0_2.length c0_2, .int .i64 a1] rfl (by (try simp only [List.map_toArray, List.map_cons, List.map_nil]); first | done | rfl | (simp only [List.length_drop, List.length_take]; rfl)) ?_; (with_reducible refine (laws_szBoolS.calls _ _ l0_2 a1 t118 _ ?side1 ?side2 A3.out).mono ?_); (case side1 => repeat (first | exact (Kd.C_below HR0_2.out HB.out) | (with_reducible refine Kd.C_alloc ?_ _) | (with_reducible refine Kd.C_drewN ?_ _) | (with_reducible refine Kd.C_drew ?_))); (case side2 => exact HC0_2.out); rintro e w' ⟨rfl, ⟨nd, rfl⟩⟩; refine ⟨_, rfl, ?_⟩) | ((with_reducible refine gate_callee (f := 23) rfl ?_); refine goesL_ (some 14) rfl rfl Tryd.func23 (by kernel_rfl) rfl #[.slice A0_3 l0_3.length c0_3, .int .i64 t118] rfl (by (try simp only [List.map_toArray, List.map_cons, List.map_nil]); first | done | rfl | (simp only [List.length_drop, List.length_take]; rfl)) ?_; (with_reducible refine (laws_szInt64SS.calls k _ _ l0_3 t118 t119 _ ?side1 ?side2 A7.out).mono ?_); (case side1 => repeat (first | exact (Kd.C_below HR0_3.out (by repeat (first | (with_reducible first | exact HB.out | apply below_alloc | apply pw_below_drewN | apply below_drew1 | refine below_set ?_ GE117.out) | exact HB.out))) | (with_reducible refine Kd.C_alloc ?_ _) | (with_reducible refine Kd.C_drewN ?_ _) | (with_reducible refine Kd.C_drew ?_))); (case side2 => exact HC0_3.out); rintro e w' ⟨rfl, ⟨nd, rfl⟩⟩; refine ⟨_, rfl, ?_⟩))
   go_ret
   exact ⟨by first | rfl | (simp [errW_none, errW_some] <;> rfl) | (simp [*, errW_none, errW_some] <;> rfl), by repeat (first | (with_reducible first | exact HB.out | apply below_alloc | apply pw_below_drewN | apply below_drew1 | refine below_set ?_ GE117.out) | exact HB.out)⟩
/-! ### laws_eqBoolS: function 32 -/
def laws_eqBoolS.l0 : Nat → List Bool → List Bool → Int → Option (Bool)
 | 0, _, _, _ => none
 | k + 1, x0, x1, x5 => if x5 < (x0.length : Int) then (if 0 ≤ x5 then (if x5 < (x1.length : Int) then (if ((rdOf false x0 x5) != (rdOf false x1 x5)) = true then (some false) else (laws_eqBoolS.l0 k x0 x1 (wrap64 (x5 + 1)))) else (none)) else (none)) else (some true)
def laws_eqBoolS.f (k : Nat) (l0 : List Bool) (l1 : List Bool) : Option (Bool) := if (l0.length : Int) = (l1.length : Int) then (laws_eqBoolS.l0 k l0 l1 0) else (some false)
set_option maxHeartbeats 8000000 in
set_option maxRecDepth 100000 in
theorem laws_eqBoolS.calls (k : Nat) (A0 : Option Addr) (c0 : Nat) (l0 : List Bool) (A1 : Option Addr) (c1 : Nat) (l1 : List Bool) (r : Bool) (w : World) (hr0 : Kd.C Kd.bool w A0 l0.length l0) (hc0 : l0.length ≤ c0) (hr1 : Kd.C Kd.bool w A1 l1.length l1) (hc1 : l1.length ≤ c1) (h : laws_eqBoolS.f k l0 l1 = some r) :
  Calls Tryd.prog 32 #[.slice A0 l0.length c0, .slice A1 l1.length c1] w fun e w' => e = .returned (.bool r) ∧ Drawn0 w w' := by
 have HR0 := Aside0.mk hr0
 have HC0 := Aside0.mk hc0
 clear hr0 hc0
 have HR1 := Aside0.mk hr1
 have HC1 := Aside0.mk hc1
 clear hr1 hc1
 have H : (if (l0.length : Int) = (l1.length : Int) then (laws_eqBoolS.l0 k l0 l1 0) else (some false)) = some r := h
 clear h
 by_cases c3 : (l0.length : Int) = (l1.length : Int)
 ·rw [if_pos c3] at H
  have c3b0 : ((l0.length : Int) == (l1.length : Int)) = true := beq_iff_eq.mpr c3
  have c3b1 : ((l0.length : Int) != (l1.length : Int)) = false := bne_eq_false_iff_eq.mpr c3
  have c3b2 : (l0.length == l1.length) = true := by first | simpa using c3 | (simp at c3 ⊢; omega)
  clear c3
  have H' := Aside0.mk H
  clear H
  go_enter Tryd.func32, Tryd.ntmps32
  go_wp2
  repeat (go_quiet (fail); try go_wp2)
  go_loopg [5] k (fun kq v5 w' => ∃ (x5_1 : Int), v5 = .int .i64 x5_1 ∧ Aside0 (laws_eqBoolS.l0 kq l0 l1 x5_1 = some r) ∧ Aside0 (kq ≤ k) ∧ Drawn0 w w')
  case atStart => exact ⟨(0), (by first | rfl | (simp; done) | (simp [*]; done) | (simp [wrap64]; done)), H', ⟨Nat.le_refl _⟩, by repeat (first | exact Drawn0.refl _ | apply Drawn0.step)⟩
  case round =>
   clear H'
   try clear c1
   try clear p2
   try clear c3
   try clear c3b0
   try clear c3b1
   try clear c3b2
   obtain ⟨x5_1, rfl, HA, HK1, ⟨m1, rfl⟩⟩ := hrel
   cases gk with
   | zero => exact absurd HA.out (by simp [laws_eqBoolS.l0])
   | succ k1 =>
    have H := HA.out
    clear HA
    simp only [laws_eqBoolS.l0] at H
    by_cases c4 : x5_1 < (l0.length : Int)
    ·rw [if_pos c4] at H
     have c4b0 : decide (x5_1 < (l0.length : Int)) = true := decide_eq_true c4
     clear c4
     by_cases c5 : 0 ≤ x5_1
     ·rw [if_pos c5] at H
      have c5b0 : decide (0 ≤ x5_1) = true := decide_eq_true c5
      clear c5
      by_cases c6 : x5_1 < (l1.length : Int)
      ·rw [if_pos c6] at H
       have c6b0 : decide (x5_1 < (l1.length : Int)) = true := decide_eq_true c6
       clear c6
       by_cases c7 : ((rdOf false l0 x5_1) != (rdOf false l1 x5_1)) = true
       ·rw [if_pos c7] at H
        have c7b0 : ((rdOf false l0 x5_1) != (rdOf false l1 x5_1)) = true := c7
        (try (have c7b1 : decide ((rdOf false l0 x5_1) = (rdOf false l1 x5_1)) = false := by simpa using c7))
        (try (have c7b2 : ((rdOf false l0 x5_1) == (rdOf false l1 x5_1)) = false := by simpa using c7))
        (try (have c7b3 : ¬ ((rdOf false l0 x5_1) = (rdOf false l1 x5_1)) := by simpa using c7))
        clear c7
        obtain rfl := Option.some.inj H
        simp only [Option.some.injEq, Prod.mk.injEq] at H
        obtain ⟨rfl⟩ := H
        have p120 : 0 ≤ (x5_1 : Int) := of_decide_eq_true (by first | (with_reducible assumption) | assumption)
        have q120 : x5_1 < (l0.length : Int) := of_decide_eq_true (by first | (with_reducible assumption) | assumption)
        obtain ⟨ad120, e120, hx120_0⟩ := Kd.at_bool HR0.out x5_1 p120 q120
        cases e120
        replace p120 := eq_true p120
        replace q120 := eq_true q120
        have p121 : 0 ≤ (x5_1 : Int) := of_decide_eq_true (by first | (with_reducible assumption) | assumption)
        have q121 : x5_1 < (l1.length : Int) := of_decide_eq_true (by first | (with_reducible assumption) | assumption)
        obtain ⟨ad121, e121, hx121_0⟩ := Kd.at_bool HR1.out x5_1 p121 q121
        cases e121
        replace p121 := eq_true p121
        replace q121 := eq_true q121
        go_wp2
        repeat (go_quiet (fail); try go_wp2)
        go_ret
        exact ⟨by first | rfl | (simp; done) | (simp [*]; done) | (simp [wrap64]; done), by repeat (first | exact Drawn0.refl _ | apply Drawn0.step)⟩
       ·rw [if_neg c7] at H
        have c7b0 : ((rdOf false l0 x5_1) != (rdOf false l1 x5_1)) = false := by simpa using c7
        (try (have c7b1 : decide ((rdOf false l0 x5_1) = (rdOf false l1 x5_1)) = true := by simpa using c7))
        (try (have c7b2 : ((rdOf false l0 x5_1) == (rdOf false l1 x5_1)) = true := by simpa using c7))
        clear c7
        have H' := Aside0.mk H
        clear H
        have p120 : 0 ≤ (x5_1 : Int) := of_decide_eq_true (by first | (with_reducible assumption) | assumption)
        have q120 : x5_1 < (l0.length : Int) := of_decide_eq_true (by first | (with_reducible assumption) | assumption)
        obtain ⟨ad120, e120, hx120_0⟩ := Kd.at_bool HR0.out x5_1 p120 q120
        cases e120
        replace p120 := eq_true p120
        replace q120 := eq_true q120
        have p121 : 0 ≤ (x5_1 : Int) := of_decide_eq_true (by first | (with_reducible assumption) | assumption)
        have q121 : x5_1 < (l1.length : Int) := of_decide_eq_true (by first | (with_reducible assumption) | assumption)
        obtain ⟨ad121, e121, hx121_0⟩ := Kd.at_bool HR1.out x5_1 p121 q121
        cases e121
        replace p121 := eq_true p121
        replace q121 := eq_true q121
        go_wp2
        repeat (go_quiet (fail); try go_wp2)
        go_roundg k1
        case measure => have := HK1.out; omega
        case rel => exact ⟨(wrap64 (x5_1 + 1)), (by first | rfl | (simp; done) | (simp [*]; done) | (simp [wrap64]; done)), H', ⟨by have := HK1.out; omega⟩, by repeat (first | exact Drawn0.refl _ | apply Drawn0.step)⟩
      ·rw [if_neg c6] at H
       exact absurd H (by simp)
     ·rw [if_neg c5] at H
      exact absurd H (by simp)
    ·rw [if_neg c4] at H
     have c4b0 : decide (x5_1 < (l0.length : Int)) = false := decide_eq_false c4
     clear c4
     obtain rfl := Option.some.inj H
     simp only [Option.some.injEq, Prod.mk.injEq] at H
     obtain ⟨rfl⟩ := H
     go_wp2
     repeat (go_quiet (fail); try go_wp2)
     go_ret
     exact ⟨by first | rfl | (simp; done) | (simp [*]; done) | (simp [wrap64]; done), by repeat (first | exact Drawn0.refl _ | apply Drawn0.step)⟩
 ·rw [if_neg c3] at H
  have c3b0 : ((l0.length : Int) == (l1.length : Int)) = false := beq_eq_false_iff_ne.mpr c3
  have c3b1 : ((l0.length : Int) != (l1.length : Int)) = true := bne_iff_ne.mpr c3
  have c3b2 : (l0.length == l1.length) = false := by first | simpa using c3 | (simp at c3 ⊢; omega)
  obtain rfl := Option.some.inj H
  simp only [Option.some.injEq, Prod.mk.injEq] at H
  obtain ⟨rfl⟩ := H
  go_enter Tryd.func32, Tryd.ntmps32
  go_wp2
  repeat (go_quiet (fail); try go_wp2)
  go_ret
  exact ⟨by first | rfl | (simp; done) | (simp [*]; done) | (simp [wrap64]; done), by repeat (first | exact Drawn0.refl _ | apply Drawn0.step)⟩
/-! ### laws_eqInt64S: function 76 -/
def laws_eqInt64S.l0 : Nat → List Int → List Int → Int → Option (Bool)
 | 0, _, _, _ => none
 | k + 1, x0, x1, x5 => if x5 < (x0.length : Int) then (if 0 ≤ x5 then (if x5 < (x1.length : Int) then (if (rd x0 x5) = (rd x1 x5) then (laws_eqInt64S.l0 k x0 x1 (wrap64 (x5 + 1))) else (some false)) else (none)) else (none)) else (some true)
def laws_eqInt64S.f (k : Nat) (l0 : List Int) (l1 : List Int) : Option (Bool) := if (l0.length : Int) = (l1.length : Int) then (laws_eqInt64S.l0 k l0 l1 0) else (some false)
set_option maxHeartbeats 8000000 in
set_option maxRecDepth 100000 in
theorem laws_eqInt64S.calls (k : Nat) (A0 : Option Addr) (c0 : Nat) (l0 : List Int) (A1 : Option Addr) (c1 : Nat) (l1 : List Int) (r : Bool) (w : World) (hr0 : Kd.C (Kd.int .i64) w A0 l0.length l0) (hc0 : l0.length ≤ c0) (hr1 : Kd.C (Kd.int .i64) w A1 l1.length l1) (hc1 : l1.length ≤ c1) (h : laws_eqInt64S.f k l0 l1 = some r) :
  Calls Tryd.prog 76 #[.slice A0 l0.length c0, .slice A1 l1.length c1] w fun e w' => e = .returned (.bool r) ∧ Drawn0 w w' := by
 have HR0 := Aside0.mk hr0
 have HC0 := Aside0.mk hc0
 clear hr0 hc0
 have HR1 := Aside0.mk hr1
 have HC1 := Aside0.mk hc1
 clear hr1 hc1
 have H : (if (l0.length : Int) = (l1.length : Int) then (laws_eqInt64S.l0 k l0 l1 0) else (some false)) = some r := h
 clear h
 by_cases c3 : (l0.length : Int) = (l1.length : Int)
 ·rw [if_pos c3] at H
  have c3b0 : ((l0.length : Int) == (l1.length : Int)) = true := beq_iff_eq.mpr c3
  have c3b1 : ((l0.length : Int) != (l1.length : Int)) = false := bne_eq_false_iff_eq.mpr c3
  have c3b2 : (l0.length == l1.length) = true := by first | simpa using c3 | (simp at c3 ⊢; omega)
  clear c3
  have H' := Aside0.mk H
  clear H
  go_enter Tryd.func76, Tryd.ntmps76
  go_wp2
  repeat (go_quiet (fail); try go_wp2)
  go_loopg [5] k (fun kq v5 w' => ∃ (x5_1 : Int), v5 = .int .i64 x5_1 ∧ Aside0 (laws_eqInt64S.l0 kq l0 l1 x5_1 = some r) ∧ Aside0 (kq ≤ k) ∧ Drawn0 w w')
  case atStart => exact ⟨(0), (by first | rfl | (simp; done) | (simp [*]; done) | (simp [wrap64]; done)), H', ⟨Nat.le_refl _⟩, by repeat (first | exact Drawn0.refl _ | apply Drawn0.step)⟩
  case round =>
   clear H'
   try clear c1
   try clear p2
   try clear c3
   try clear c3b0
   try clear c3b1
   try clear c3b2
   obtain ⟨x5_1, rfl, HA, HK1, ⟨m1, rfl⟩⟩ := hrel
   cases gk with
   | zero => exact absurd HA.out (by simp [laws_eqInt64S.l0])
   | succ k1 =>
    have H := HA.out
    clear HA
    simp only [laws_eqInt64S.l0] at H
    by_cases c4 : x5_1 < (l0.length : Int)
    ·rw [if_pos c4] at H
     have c4b0 : decide (x5_1 < (l0.length : Int)) = true := decide_eq_true c4
     clear c4
     by_cases c5 : 0 ≤ x5_1
     ·rw [if_pos c5] at H
      have c5b0 : decide (0 ≤ x5_1) = true := decide_eq_true c5
      clear c5
      by_cases c6 : x5_1 < (l1.length : Int)
      ·rw [if_pos c6] at H
       have c6b0 : decide (x5_1 < (l1.length : Int)) = true := decide_eq_true c6
       clear c6
       by_cases c7 : (rd l0 x5_1) = (rd l1 x5_1)
       ·rw [if_pos c7] at H
        have c7b0 : ((rd l0 x5_1) == (rd l1 x5_1)) = true := beq_iff_eq.mpr c7
        have c7b1 : ((rd l0 x5_1) != (rd l1 x5_1)) = false := bne_eq_false_iff_eq.mpr c7
        clear c7
        have H' := Aside0.mk H
        clear H
        have p122 : 0 ≤ (x5_1 : Int) := of_decide_eq_true (by first | (with_reducible assumption) | assumption)
        have q122 : x5_1 < (l0.length : Int) := of_decide_eq_true (by first | (with_reducible assumption) | assumption)
        obtain ⟨ad122, e122, hx122_0⟩ := Kd.at_int HR0.out x5_1 p122 q122
        cases e122
        replace p122 := eq_true p122
        replace q122 := eq_true q122
        have p123 : 0 ≤ (x5_1 : Int) := of_decide_eq_true (by first | (with_reducible assumption) | assumption)
        have q123 : x5_1 < (l1.length : Int) := of_decide_eq_true (by first | (with_reducible assumption) | assumption)
        obtain ⟨ad123, e123, hx123_0⟩ := Kd.at_int HR1.out x5_1 p123 q123
        cases e123
        replace p123 := eq_true p123
        replace q123 := eq_true q123
        go_wp2
        repeat (go_quiet (fail); try go_wp2)
        go_roundg k1
        case measure => have := HK1.out; omega
        case rel => exact ⟨(wrap64 (x5_1 + 1)), (by first | rfl | (simp; done) | (simp [*]; done) | (simp [wrap64]; done)), H', ⟨by have := HK1.out; omega⟩, by repeat (first | exact Drawn0.refl _ | apply Drawn0.step)⟩
       ·rw [if_neg c7] at H
        have c7b0 : ((rd l0 x5_1) == (rd l1 x5_1)) = false := beq_eq_false_iff_ne.mpr c7
        have c7b1 : ((rd l0 x5_1) != (rd l1 x5_1)) = true := bne_iff_ne.mpr c7
        obtain rfl := Option.some.inj H
        simp only [Option.some.injEq, Prod.mk.injEq] at H
        obtain ⟨rfl⟩ := H
        have p122 : 0 ≤ (x5_1 : Int) := of_decide_eq_true (by first | (with_reducible assumption) | assumption)
        have q122 : x5_1 < (l0.length : Int) := of_decide_eq_true (by first | (with_reducible assumption) | assumption)
        obtain ⟨ad122, e122, hx122_0⟩ := Kd.at_int HR0.out x5_1 p122 q122
        cases e122
        replace p122 := eq_true p122
        replace q122 := eq_true q122
        have p123 : 0 ≤ (x5_1 : Int) := of_decide_eq_true (by first | (with_reducible assumption) | assumption)
        have q123 : x5_1 < (l1.length : Int) := of_decide_eq_true (by first | (with_reducible assumption) | assumption)
        obtain ⟨ad123, e123, hx123_0⟩ := Kd.at_int HR1.out x5_1 p123 q123
        cases e123
        replace p123 := eq_true p123
        replace q123 := eq_true q123
        go_wp2
        repeat (go_quiet (fail); try go_wp2)
        go_ret
        exact ⟨by first | rfl | (simp; done) | (simp [*]; done) | (simp [wrap64]; done), by repeat (first | exact Drawn0.refl _ | apply Drawn0.step)⟩
      ·rw [if_neg c6] at H
       exact absurd H (by simp)
     ·rw [if_neg c5] at H
      exact absurd H (by simp)
    ·rw [if_neg c4] at H
     have c4b0 : decide (x5_1 < (l0.length : Int)) = false := decide_eq_false c4
     clear c4
     obtain rfl := Option.some.inj H
     simp only [Option.some.injEq, Prod.mk.injEq] at H
     obtain ⟨rfl⟩ := H
     go_wp2
     repeat (go_quiet (fail); try go_wp2)
     go_ret
     exact ⟨by first | rfl | (simp; done) | (simp [*]; done) | (simp [wrap64]; done), by repeat (first | exact Drawn0.refl _ | apply Drawn0.step)⟩
 ·rw [if_neg c3] at H
  have c3b0 : ((l0.length : Int) == (l1.length : Int)) = false := beq_eq_false_iff_ne.mpr c3
  have c3b1 : ((l0.length : Int) != (l1.length : Int)) = true := bne_iff_ne.mpr c3
  have c3b2 : (l0.length == l1.length) = false := by first | simpa using c3 | (simp at c3 ⊢; omega)
  obtain rfl := Option.some.inj H
  simp only [Option.some.injEq, Prod.mk.injEq] at H
  obtain ⟨rfl⟩ := H
  go_enter Tryd.func76, Tryd.ntmps76
  go_wp2
  repeat (go_quiet (fail); try go_wp2)
  go_ret
  exact ⟨by first | rfl | (simp; done) | (simp [*]; done) | (simp [wrap64]; done), by repeat (first | exact Drawn0.refl _ | apply Drawn0.step)⟩
end Go.Proofs.YtnjdkhnepmmfgaaDoor.PT3
namespace Go.Proofs.YtnjdkhnepmmfgaaDoor.PT3
open Go.RowKit Go.Proofs.YtnjdkhnepmmfgaaDoorW.PrintWords Go.Proofs.YtnjdkhnepmmfgaaDoorW.PrintLast Go.Proofs.YtnjdkhnepmmfgaaDoorW.PrintMore PL1 Rw
attribute [local go_sem] max2_int min2_int max_two min_two max_three min_three max_four min_four   -- for this text's walks alone
set_option linter.unusedVariables false
set_option linter.unusedSimpArgs false
/-! ### laws_eqInt64SS: function 33 -/
def laws_eqInt64SS.l0 : Nat → List (List Int) → List (List Int) → Int → Option (Bool)
 | 0, _, _, _ => none
 | k + 1, x0, x1, x5 => if x5 < (x0.length : Int) then (if 0 ≤ x5 then (if x5 < (x1.length : Int) then ((laws_eqInt64S.f k (rd_L2 x0 x5) (rd_L2 x1 x5)).bind fun t126 => (if t126 = true then (laws_eqInt64SS.l0 k x0 x1 (wrap64 (x5 + 1))) else (some false))) else (none)) else (none)) else (some true)
def laws_eqInt64SS.f (k : Nat) (l0 : List (List Int)) (l1 : List (List Int)) : Option (Bool) := if (l0.length : Int) = (l1.length : Int) then (laws_eqInt64SS.l0 k l0 l1 0) else (some false)
set_option maxHeartbeats 8000000 in
set_option maxRecDepth 100000 in
theorem laws_eqInt64SS.calls (k : Nat) (A0 : Option Addr) (c0 : Nat) (l0 : List (List Int)) (A1 : Option Addr) (c1 : Nat) (l1 : List (List Int)) (r : Bool) (w : World) (hr0 : Kd.C (Kd.slice 2 (Kd.int .i64)) w A0 l0.length l0) (hc0 : l0.length ≤ c0) (hr1 : Kd.C (Kd.slice 2 (Kd.int .i64)) w A1 l1.length l1) (hc1 : l1.length ≤ c1) (h : laws_eqInt64SS.f k l0 l1 = some r) :
  Calls Tryd.prog 33 #[.slice A0 l0.length c0, .slice A1 l1.length c1] w fun e w' => e = .returned (.bool r) ∧ Drawn0 w w' := by
 have HR0 := Aside0.mk hr0
 have HC0 := Aside0.mk hc0
 clear hr0 hc0
 have HR1 := Aside0.mk hr1
 have HC1 := Aside0.mk hc1
 clear hr1 hc1
 have H : (if (l0.length : Int) = (l1.length : Int) then (laws_eqInt64SS.l0 k l0 l1 0) else (some false)) = some r := h
 clear h
 by_cases c3 : (l0.length : Int) = (l1.length : Int)
 ·rw [if_pos c3] at H
  have c3b0 : ((l0.length : Int) == (l1.length : Int)) = true := beq_iff_eq.mpr c3
  have c3b1 : ((l0.length : Int) != (l1.length : Int)) = false := bne_eq_false_iff_eq.mpr c3
  have c3b2 : (l0.length == l1.length) = true := by first | simpa using c3 | (simp at c3 ⊢; omega)
  clear c3
  have H' := Aside0.mk H
  clear H
  go_enter Tryd.func33, Tryd.ntmps33
  go_wp2
  repeat (go_quiet (fail); try go_wp2)
  go_loopg [5] k (fun kq v5 w' => ∃ (x5_1 : Int), v5 = .int .i64 x5_1 ∧ Aside0 (laws_eqInt64SS.l0 kq l0 l1 x5_1 = some r) ∧ Aside0 (kq ≤ k) ∧ Drawn0 w w')
  case atStart => exact ⟨(0), (by first | rfl | (simp; done) | (simp [*]; done) | (simp [wrap64]; done)), H', ⟨Nat.le_refl _⟩, by repeat (first | exact Drawn0.refl _ | apply Drawn0.step)⟩
  case round =>
   clear H'
   try clear c1
   try clear p2
   try clear c3
   try clear c3b0
   try clear c3b1
   try clear c3b2
   obtain ⟨x5_1, rfl, HA, HK1, ⟨m1, rfl⟩⟩ := hrel
   cases gk with
   | zero => exact absurd HA.out (by simp [laws_eqInt64SS.l0])
   | succ k1 =>
    have H := HA.out
    clear HA
    simp only [laws_eqInt64SS.l0] at H
    by_cases c4 : x5_1 < (l0.length : Int)
    ·rw [if_pos c4] at H
     have c4b0 : decide (x5_1 < (l0.length : Int)) = true := decide_eq_true c4
     clear c4
     by_cases c5 : 0 ≤ x5_1
     ·rw [if_pos c5] at H
      have c5b0 : decide (0 ≤ x5_1) = true := decide_eq_true c5
      clear c5
      by_cases c6 : x5_1 < (l1.length : Int)
      ·rw [if_pos c6] at H
       have c6b0 : decide (x5_1 < (l1.length : Int)) = true := decide_eq_true c6
       clear c6
       replace H := Option.bind_eq_some_iff.mp H
       obtain ⟨t126, A70, H⟩ := H
       replace H : (if t126 = true then (laws_eqInt64SS.l0 k1 l0 l1 (wrap64 (x5_1 + 1))) else (some false)) = some r := H
       have A7 := Aside0.mk A70
       clear A70
       by_cases c8 : t126 = true
       ·subst c8
        have H1 : (laws_eqInt64SS.l0 k1 l0 l1 (wrap64 (x5_1 + 1))) = some r := by rw [if_pos rfl] at H; exact H
        clear H
        have H := H1
        clear H1
        have H' := Aside0.mk H
        clear H
        have p124 : 0 ≤ (x5_1 : Int) := of_decide_eq_true (by first | (with_reducible assumption) | assumption)
        have q124 : x5_1 < (l0.length : Int) := of_decide_eq_true (by first | (with_reducible assumption) | assumption)
        obtain ⟨ad124, A124_0, c124_0, e124, hx124_0, hl124_0, hi124_0⟩ := at_L2 HR0.out x5_1 p124 q124
        cases e124
        have HR124_0 := Aside0.mk hi124_0
        have HC124_0 := Aside0.mk hl124_0
        clear hi124_0 hl124_0
        replace p124 := eq_true p124
        replace q124 := eq_true q124
        have p125 : 0 ≤ (x5_1 : Int) := of_decide_eq_true (by first | (with_reducible assumption) | assumption)
        have q125 : x5_1 < (l1.length : Int) := of_decide_eq_true (by first | (with_reducible assumption) | assumption)
        obtain ⟨ad125, A125_0, c125_0, e125, hx125_0, hl125_0, hi125_0⟩ := at_L2 HR1.out x5_1 p125 q125
        cases e125
        have HR125_0 := Aside0.mk hi125_0
        have HC125_0 := Aside0.mk hl125_0
        clear hi125_0 hl125_0
        replace p125 := eq_true p125
        replace q125 := eq_true q125
        go_wp2_with (first | (go_at_call 76; (with_reducible refine (laws_eqInt64S.calls k1 _ _ (rd_L2 l0 x5_1) _ _ (rd_L2 l1 x5_1) true _ ?side1 ?side2 ?side3 ?side4 A7.out).mono ?_); (case side1 => repeat (first | exact HR124_0.out | (with_reducible refine Kd.C_alloc ?_ _) | (with_reducible refine Kd.C_drewN ?_ _) | (with_reducible refine Kd.C_drew ?_))); (case side2 => exact HC124_0.out); (case side3 => repeat (first | exact HR125_0.out | (with_reducible refine Kd.C_alloc ?_ _) | (with_reducible refine Kd.C_drewN ?_ _) | (with_reducible refine Kd.C_drew ?_))); (case side4 => exact HC125_0.out); rintro e w' ⟨rfl, ⟨nd, rfl⟩⟩; (try first | exact ⟨rfl, _, World.drewN_drewN _ _ _⟩ | exact ⟨rfl, _, Eq.trans (World.drewN_drewN _ _ _) (congrArg (World.drewN _) (Nat.add_assoc _ _ _))⟩)))
        repeat (go_quiet (first | (go_at_call 76; (with_reducible refine (laws_eqInt64S.calls k1 _ _ (rd_L2 l0 x5_1) _ _ (rd_L2 l1 x5_1) true _ ?side1 ?side2 ?side3 ?side4 A7.out).mono ?_); (case side1 => repeat (first | exact HR124_0.out | (with_reducible refine Kd.C_alloc ?_ _) | (with_reducible refine Kd.C_drewN ?_ _) | (with_reducible refine Kd.C_drew ?_))); (case side2 => exact HC124_0.out); (case side3 => repeat (first | exact HR125_0.out | (with_reducible refine Kd.C_alloc ?_ _) | (with_reducible refine Kd.C_drewN ?_ _) | (with_reducible refine Kd.C_drew ?_))); (case side4 => exact HC125_0.out); rintro e w' ⟨rfl, ⟨nd, rfl⟩⟩; (try first | exact ⟨rfl, _, World.drewN_drewN _ _ _⟩ | exact ⟨rfl, _, Eq.trans (World.drewN_drewN _ _ _) (congrArg (World.drewN _) (Nat.add_assoc _ _ _))⟩))); try go_wp2_with (first | (go_at_call 76; (with_reducible refine (laws_eqInt64S.calls k1 _ _ (rd_L2 l0 x5_1) _ _ (rd_L2 l1 x5_1) true _ ?side1 ?side2 ?side3 ?side4 A7.out).mono ?_); (case side1 => repeat (first | exact HR124_0.out | (with_reducible refine Kd.C_alloc ?_ _) | (with_reducible refine Kd.C_drewN ?_ _) | (with_reducible refine Kd.C_drew ?_))); (case side2 => exact HC124_0.out); (case side3 => repeat (first | exact HR125_0.out | (with_reducible refine Kd.C_alloc ?_ _) | (with_reducible refine Kd.C_drewN ?_ _) | (with_reducible refine Kd.C_drew ?_))); (case side4 => exact HC125_0.out); rintro e w' ⟨rfl, ⟨nd, rfl⟩⟩; (try first | exact ⟨rfl, _, World.drewN_drewN _ _ _⟩ | exact ⟨rfl, _, Eq.trans (World.drewN_drewN _ _ _) (congrArg (World.drewN _) (Nat.add_assoc _ _ _))⟩))))
        go_roundg k1
        case measure => have := HK1.out; omega
        case rel => exact ⟨(wrap64 (x5_1 + 1)), (by first | rfl | (simp; done) | (simp [*]; done) | (simp [wrap64]; done)), H', ⟨by have := HK1.out; omega⟩, by repeat (first | exact Drawn0.refl _ | apply Drawn0.step)⟩
       ·replace c8 := Bool.eq_false_iff.mpr c8
        subst c8
        have H1 : (some false) = some r := by rw [if_neg (show ¬ (false = true) by decide)] at H; exact H
        clear H
        have H := H1
        clear H1
        obtain rfl := Option.some.inj H
        simp only [Option.some.injEq, Prod.mk.injEq] at H
        obtain ⟨rfl⟩ := H
        have p124 : 0 ≤ (x5_1 : Int) := of_decide_eq_true (by first | (with_reducible assumption) | assumption)
        have q124 : x5_1 < (l0.length : Int) := of_decide_eq_true (by first | (with_reducible assumption) | assumption)
        obtain ⟨ad124, A124_0, c124_0, e124, hx124_0, hl124_0, hi124_0⟩ := at_L2 HR0.out x5_1 p124 q124
        cases e124
        have HR124_0 := Aside0.mk hi124_0
        have HC124_0 := Aside0.mk hl124_0
        clear hi124_0 hl124_0
        replace p124 := eq_true p124
        replace q124 := eq_true q124
        have p125 : 0 ≤ (x5_1 : Int) := of_decide_eq_true (by first | (with_reducible assumption) | assumption)
        have q125 : x5_1 < (l1.length : Int) := of_decide_eq_true (by first | (with_reducible assumption) | assumption)
        obtain ⟨ad125, A125_0, c125_0, e125, hx125_0, hl125_0, hi125_0⟩ := at_L2 HR1.out x5_1 p125 q125
        cases e125
        have HR125_0 := Aside0.mk hi125_0
        have HC125_0 := Aside0.mk hl125_0
        clear hi125_0 hl125_0
        replace p125 := eq_true p125
        replace q125 := eq_true q125
        go_wp2_with (first | (go_at_call 76; (with_reducible refine (laws_eqInt64S.calls k1 _ _ (rd_L2 l0 x5_1) _ _ (rd_L2 l1 x5_1) false _ ?side1 ?side2 ?side3 ?side4 A7.out).mono ?_); (case side1 => repeat (first | exact HR124_0.out | (with_reducible refine Kd.C_alloc ?_ _) | (with_reducible refine Kd.C_drewN ?_ _) | (with_reducible refine Kd.C_drew ?_))); (case side2 => exact HC124_0.out); (case side3 => repeat (first | exact HR125_0.out | (with_reducible refine Kd.C_alloc ?_ _) | (with_reducible refine Kd.C_drewN ?_ _) | (with_reducible refine Kd.C_drew ?_))); (case side4 => exact HC125_0.out); rintro e w' ⟨rfl, ⟨nd, rfl⟩⟩; (try first | exact ⟨rfl, _, World.drewN_drewN _ _ _⟩ | exact ⟨rfl, _, Eq.trans (World.drewN_drewN _ _ _) (congrArg (World.drewN _) (Nat.add_assoc _ _ _))⟩)))
        repeat (go_quiet (first | (go_at_call 76; (with_reducible refine (laws_eqInt64S.calls k1 _ _ (rd_L2 l0 x5_1) _ _ (rd_L2 l1 x5_1) false _ ?side1 ?side2 ?side3 ?side4 A7.out).mono ?_); (case side1 => repeat (first | exact HR124_0.out | (with_reducible refine Kd.C_alloc ?_ _) | (with_reducible refine Kd.C_drewN ?_ _) | (with_reducible refine Kd.C_drew ?_))); (case side2 => exact HC124_0.out); (case side3 => repeat (first | exact HR125_0.out | (with_reducible refine Kd.C_alloc ?_ _) | (with_reducible refine Kd.C_drewN ?_ _) | (with_reducible refine Kd.C_drew ?_))); (case side4 => exact HC125_0.out); rintro e w' ⟨rfl, ⟨nd, rfl⟩⟩; (try first | exact ⟨rfl, _, World.drewN_drewN _ _ _⟩ | exact ⟨rfl, _, Eq.trans (World.drewN_drewN _ _ _) (congrArg (World.drewN _) (Nat.add_assoc _ _ _))⟩))); try go_wp2_with (first | (go_at_call 76; (with_reducible refine (laws_eqInt64S.calls k1 _ _ (rd_L2 l0 x5_1) _ _ (rd_L2 l1 x5_1) false _ ?side1 ?side2 ?side3 ?side4 A7.out).mono ?_); (case side1 => repeat (first | exact HR124_0.out | (with_reducible refine Kd.C_alloc ?_ _) | (with_reducible refine Kd.C_drewN ?_ _) | (with_reducible refine Kd.C_drew ?_))); (case side2 => exact HC124_0.out); (case side3 => repeat (first | exact HR125_0.out | (with_reducible refine Kd.C_alloc ?_ _) | (with_reducible refine Kd.C_drewN ?_ _) | (with_reducible refine Kd.C_drew ?_))); (case side4 => exact HC125_0.out); rintro e w' ⟨rfl, ⟨nd, rfl⟩⟩; (try first | exact ⟨rfl, _, World.drewN_drewN _ _ _⟩ | exact ⟨rfl, _, Eq.trans (World.drewN_drewN _ _ _) (congrArg (World.drewN _) (Nat.add_assoc _ _ _))⟩))))
        go_ret
        exact ⟨by first | rfl | (simp; done) | (simp [*]; done) | (simp [wrap64]; done), by repeat (first | exact Drawn0.refl _ | apply Drawn0.step)⟩
      ·rw [if_neg c6] at H
       exact absurd H (by simp)
     ·rw [if_neg c5] at H
      exact absurd H (by simp)
    ·rw [if_neg c4] at H
     have c4b0 : decide (x5_1 < (l0.length : Int)) = false := decide_eq_false c4
     clear c4
     obtain rfl := Option.some.inj H
     simp only [Option.some.injEq, Prod.mk.injEq] at H
     obtain ⟨rfl⟩ := H
     go_wp2
     repeat (go_quiet (fail); try go_wp2)
     go_ret
     exact ⟨by first | rfl | (simp; done) | (simp [*]; done) | (simp [wrap64]; done), by repeat (first | exact Drawn0.refl _ | apply Drawn0.step)⟩
 ·rw [if_neg c3] at H
  have c3b0 : ((l0.length : Int) == (l1.length : Int)) = false := beq_eq_false_iff_ne.mpr c3
  have c3b1 : ((l0.length : Int) != (l1.length : Int)) = true := bne_iff_ne.mpr c3
  have c3b2 : (l0.length == l1.length) = false := by first | simpa using c3 | (simp at c3 ⊢; omega)
  obtain rfl := Option.some.inj H
  simp only [Option.some.injEq, Prod.mk.injEq] at H
  obtain ⟨rfl⟩ := H
  go_enter Tryd.func33, Tryd.ntmps33
  go_wp2
  repeat (go_quiet (fail); try go_wp2)
  go_ret
  exact ⟨by first | rfl | (simp; done) | (simp [*]; done) | (simp [wrap64]; done), by repeat (first | exact Drawn0.refl _ | apply Drawn0.step)⟩
end Go.Proofs.YtnjdkhnepmmfgaaDoor.PT3
namespace Go.Proofs.YtnjdkhnepmmfgaaDoor.PT3
open Go.RowKit Go.Proofs.YtnjdkhnepmmfgaaDoorW.PrintWords Go.Proofs.YtnjdkhnepmmfgaaDoorW.PrintLast Go.Proofs.YtnjdkhnepmmfgaaDoorW.PrintMore PL1 Rw
attribute [local go_sem] max2_int min2_int max_two min_two max_three min_three max_four min_four   -- for this text's walks alone
set_option linter.unusedVariables false
set_option linter.unusedSimpArgs false
end Go.Proofs.YtnjdkhnepmmfgaaDoor.PT3
namespace Go.Proofs.YtnjdkhnepmmfgaaDoor.PureRel
set_option linter.unusedVariables false
set_option linter.unusedSimpArgs false
open Go.RowKit Go.Proofs.YtnjdkhnepmmfgaaDoorW.PrintWords Go.Proofs.YtnjdkhnepmmfgaaDoorW.PrintLast Go.Proofs.YtnjdkhnepmmfgaaDoorW.PrintMore PL1 Rw PT3 Go.Proofs.YtnjdkhnepmmfgaaDoor.Pure
/-! ### copies -/
theorem toBool_ev (xs : List Bool) (h : xs.length ≤ 281474976710656) : Ev (fun k => laws_toBoolS.f k xs) xs := by
 have key := ev_copy (fun k ys i => laws_toBoolS.l0 k xs ys i) xs false
  (fun ys hy => ev_const (fun k => by simp [laws_toBoolS.l0]))
  (fun i hi ys r hy H => ev_step (fun k => by
   simp only [laws_toBoolS.l0]
   rw [if_pos (by omega), if_pos (by omega), if_pos (by omega), rdOf_nat false xs i hi, wrap_up (by omega), Int.toNat_natCast]) H)
 exact Ev.congr (fun k => by unfold laws_toBoolS.f; rw [if_pos (by omega), if_pos (by simpa using h)]; simp) key
theorem row_nat (xs : List (List Int)) (i : Nat) (h : i < xs.length) : Go.Proofs.YtnjdkhnepmmfgaaDoor.PT3.rd_L2 xs (i : Int) = xs[i] := getD_nat _ _ _ h
theorem toRows_is (xs : List (List Int)) (h : xs.length ≤ 1048576) (hs : ∀ r ∈ xs, r.length ≤ 1048576) : laws_toInt64SS.f xs = some xs := by
 unfold laws_toInt64SS.f
 rw [if_pos ⟨h, hs⟩]
theorem toRel_ev (s t : Int) (a : List Bool) (b : List (List Int)) (ha : a.length ≤ 1048576) (hb : b.length ≤ 1048576) (hs : ∀ r ∈ b, r.length ≤ 1048576) : Ev (fun k => laws_toRelation.f k s t a b) (s, t, a, b) :=
 ev_call (toBool_ev a (by omega)) (f := fun k x => (laws_toInt64SS.f b).bind fun y => some (s, t, x, y)) (ev_some (toRows_is b hb hs) (f := fun k y => some (s, t, a, y)) (Ev.now _) (fun _ => rfl)) (fun _ => rfl)
/-! ### equal -/
theorem eqBool_ev (a : List Bool) (h : a.length ≤ 1048576) : Ev (fun k => laws_eqBoolS.f k a a) true := by
 have key := ev_up (fun k i (_ : Unit) => laws_eqBoolS.l0 k a a i) a.length (fun _ => ()) true (ev_const (fun k => by simp [laws_eqBoolS.l0]))
  (fun i hi H => ev_step (fun k => by
   simp only [laws_eqBoolS.l0]
   rw [if_pos (by omega), if_pos (by omega), if_pos (by omega), if_neg (by simp), wrap_up (by omega)]) H)
 exact Ev.congr (fun k => by simp [laws_eqBoolS.f]) key
theorem eqLongs_ev (a : List Int) (h : a.length ≤ 1048576) : Ev (fun k => laws_eqInt64S.f k a a) true := by
 have key := ev_up (fun k i (_ : Unit) => laws_eqInt64S.l0 k a a i) a.length (fun _ => ()) true (ev_const (fun k => by simp [laws_eqInt64S.l0]))
  (fun i hi H => ev_step (fun k => by
   simp only [laws_eqInt64S.l0]
   rw [if_pos (by omega), if_pos (by omega), if_pos (by omega), if_pos trivial, wrap_up (by omega)]) H)
 exact Ev.congr (fun k => by simp [laws_eqInt64S.f]) key
theorem eqRows_ev (a : List (List Int)) (h : a.length ≤ 1048576) (hs : ∀ r ∈ a, r.length ≤ 1048576) : Ev (fun k => laws_eqInt64SS.f k a a) true := by
 have key := ev_up (fun k i (_ : Unit) => laws_eqInt64SS.l0 k a a i) a.length (fun _ => ()) true (ev_const (fun k => by simp [laws_eqInt64SS.l0]))
  (fun i hi H => by
   refine ev_step (f := fun k => (laws_eqInt64S.f k a[i] a[i]).bind fun t => if t = true then laws_eqInt64SS.l0 k a a ((i : Int) + 1) else some false) (fun k => ?_) (Ev.bind (eqLongs_ev a[i] (hs _ (List.getElem_mem hi))) (ev_ift rfl H))
   simp only [laws_eqInt64SS.l0]
   rw [if_pos (by omega), if_pos (by omega), if_pos (by omega), row_nat a i hi, wrap_up (by omega)])
 exact Ev.congr (fun k => by simp [laws_eqInt64SS.f]) key
/-! ### sizes -/
theorem szLongs_is (x : List Int) (m : Int) (h0 : 0 ≤ m) (hm : m ≤ 1048576) (hx : x.length ≤ 9223372036854775807) : ∃ v, laws_szInt64S.f x m = some v ∧ v ≤ m ∧ (0 ≤ v → x.length ≤ 1048576 ∧ v = m - x.length) := by
 have w1 : wrap64 (m - x.length) = m - x.length := wrap_id (by omega) (by omega)
 unfold laws_szInt64S.f
 rw [w1]
 by_cases q : m - (x.length : Int) < 0
 ·rw [if_pos q]; exact ⟨-1, rfl, by omega, fun h => absurd h (by omega)⟩
 ·rw [if_neg q]; exact ⟨_, rfl, by omega, fun _ => ⟨by omega, rfl⟩⟩
theorem szRows_ev (c : List (List Int)) (n : Int) (h0 : 0 ≤ n) (hn : n ≤ 1048576) (hl : c.length ≤ 9223372036854775807) (hs : ∀ x ∈ c, x.length ≤ 9223372036854775807) :
  ∃ r, Ev (fun k => laws_szInt64SS.f k c n) r ∧ r ≤ n ∧ (0 ≤ r → c.length ≤ 1048576 ∧ (∀ x ∈ c, x.length ≤ 1048576) ∧ (c.map List.length).sum ≤ 1048576) := by
 have hw : wrap64 (n - c.length) = n - c.length := wrap_id (by omega) (by omega)
 by_cases hlt : n - c.length < 0
 ·exact ⟨-1, Ev.congr (fun k => by unfold laws_szInt64SS.f; rw [hw, if_pos hlt]) (Ev.now _), by omega, fun h => absurd h (by omega)⟩
 ·have key : ∀ d i (m : Int), d + i = c.length → 0 ≤ m → m ≤ n - c.length → ∃ r, Ev (fun k => laws_szInt64SS.l0 k c m (i : Int)) r ∧ r ≤ n ∧ (0 ≤ r → (∀ j, i ≤ j → (h : j < c.length) → c[j].length ≤ 1048576) ∧ (((c.drop i).map List.length).sum : Int) ≤ m) := by
   intro d
   induction d with
   | zero => intro i m hi h0 hm; exact ⟨m, ev_const (fun k => by simp only [laws_szInt64SS.l0]; rw [if_neg (by omega)]), by omega, fun _ => ⟨fun j h1 h2 => by omega, by rw [List.drop_of_length_le (by omega)]; simpa using h0⟩⟩
   | succ d ih =>
    intro i m hi h0 hm
    have hi' : i < c.length := by omega
    obtain ⟨v, hv, hvm, hvl⟩ := szLongs_is c[i] m h0 (by omega) (hs _ (List.getElem_mem hi'))
    by_cases q : v < 0
    ·exact ⟨-1, ev_const (fun k => by
      simp only [laws_szInt64SS.l0]
      rw [if_pos (by omega), if_pos (by omega), row_nat c i hi', hv, Option.bind_some, if_pos q]), by omega, fun h => absurd h (by omega)⟩
    ·obtain ⟨r, hr, hrn, hrl⟩ := ih (i + 1) v (by omega) (by omega) (by omega)
     refine ⟨r, ev_step (fun k => ?_) hr, hrn, fun h => ⟨fun j h1 h2 => ?_, ?_⟩⟩
     ·simp only [laws_szInt64SS.l0]
      rw [if_pos (by omega), if_pos (by omega), row_nat c i hi', hv, Option.bind_some, if_neg q, wrap_up (by omega)]
      simp
     ·by_cases e : j = i
      ·subst e; exact (hvl (by omega)).1
      ·exact (hrl h).1 j (by omega) h2
     ·have h5 := (hrl h).2
      have h6 := (hvl (by omega)).2
      rw [List.drop_eq_getElem_cons hi', List.map_cons, List.sum_cons]
      omega
  obtain ⟨r, hr, hrn, hrl⟩ := key c.length 0 _ (by omega) (by omega) (Int.le_refl _)
  refine ⟨r, Ev.congr (fun k => ?_) hr, hrn, fun h => ⟨by omega, fun x hx => ?_, by have := (hrl h).2; rw [List.drop_zero] at this; omega⟩⟩
  ·unfold laws_szInt64SS.f
   rw [hw, if_neg hlt]
   rfl
  ·obtain ⟨j, hj, rfl⟩ := List.mem_iff_getElem.1 hx
   exact (hrl h).1 j (by omega) hj
end Go.Proofs.YtnjdkhnepmmfgaaDoor.PureRel
namespace Go.Proofs.YtnjdkhnepmmfgaaDoor.Lr
set_option linter.unusedVariables false
set_option linter.unusedSimpArgs false
open Go.RowKit Go.Proofs.YtnjdkhnepmmfgaaDoorW.PrintWords Go.Proofs.YtnjdkhnepmmfgaaDoorW.PrintLast Go.Proofs.YtnjdkhnepmmfgaaDoorW.PrintMore Kp PT3 Go.Proofs.YtnjdkhnepmmfgaaDoor.Pure PureRel Rw
/-- What a relation's cells hold, as arguments. -/
structure Arg (w : World) (A2 : Option Addr) (c2 : Nat) (a : List Bool) (A3 : Option Addr) (c3 : Nat) (b : List (List Int)) : Prop where
 r2 : Kd.C Kd.bool w A2 a.length a
 l2 : a.length ≤ c2
 r3 : Kd.C (Kd.slice 2 (Kd.int .i64)) w A3 b.length b
 l3 : b.length ≤ c3
/-- Sizes that a law lets in. -/
structure Small (a : List Bool) (b : List (List Int)) : Prop where
 la : a.length ≤ 1048576
 lb : b.length ≤ 1048576
 lr : ∀ r ∈ b, r.length ≤ 1048576
section
variable {w w' : World} {A2 : Option Addr} {c2 : Nat} {a : List Bool} {A3 : Option Addr} {c3 : Nat} {b : List (List Int)}
theorem Arg.below (h : Arg w A2 c2 a A3 c3 b) (hb : Below w.heap.size w w') : Arg w' A2 c2 a A3 c3 b := ⟨Kd.C_below h.r2 hb, h.l2, Kd.C_below h.r3 hb, h.l3⟩
end
/-- The reference's test of a relation. -/
theorem ok_spec (gp : Nat) (t s : Int) (A2 : Option Addr) (c2 : Nat) (a : List Bool) (A3 : Option Addr) (c3 : Nat) (b : List (List Int)) (w : World) (hP : w.heap[gp]? = some (.cells #[.int .i64 t, .int .i64 s, .slice A2 a.length c2, .slice A3 b.length c3] 27 (0, 0))) (hA : Arg w A2 c2 a A3 c3 b) (hS : Small a b) :
  Calls Tryd.prog 65 #[.pointer (some ⟨gp, 0, none⟩)] w fun e w' => e = .returned (.bool (okR t s a b)) ∧ Below w.heap.size w w' := by
 have hgp := blk_lt hP
 have m0 : w.cell? ⟨gp, 0, none⟩ = some (.int .i64 t) := (blk_cell hP 0).trans rfl
 have m1 : w.cell? ⟨gp, 1, none⟩ = some (.int .i64 s) := (blk_cell hP 1).trans rfl
 have m2 : w.cell? ⟨gp, 2, none⟩ = some (.slice A2 a.length c2) := (blk_cell hP 2).trans rfl
 have m3 : w.cell? ⟨gp, 3, none⟩ = some (.slice A3 b.length c3) := (blk_cell hP 3).trans rfl
 by_cases h : a.length ≤ 150
 ·have h1 : ((a.length : Int) ≤ 150) = True := eq_true (by omega)
  have hr : okR t s a b = okF t s a b := by unfold okR; rw [decide_eq_true h, Bool.true_and]
  rw [hr]
  clear hr
  go_enter Tryd.func65, Tryd.ntmps65
  go_wp2_with (go_at_call 96; go_loud (
   with_reducible refine (form gp t s A2 c2 a A3 c3 b _ hP hA.r3 hA.l3 hS.la hS.lb hS.lr).mono ?_
   rintro e w1 ⟨rfl, hb1⟩))
  go_ret
  exact ⟨rfl, hb1⟩
 ·have h1 : ((a.length : Int) ≤ 150) = False := eq_false (by omega)
  have hr : okR t s a b = false := by unfold okR; rw [decide_eq_false h, Bool.false_and]
  rw [hr]
  go_enter Tryd.func65, Tryd.ntmps65
  go_wp2_with fail
  go_ret
  exact ⟨rfl, Below.refl _ _⟩
/-- The code of a relation that should have two tapes. -/
def twoC (t s : Int) (a : List Bool) (b : List (List Int)) : Int := if okR t s a b = true then (if t = 2 then 0 else 2) else 1
set_option maxHeartbeats 2000000 in
/-- The program's code of one relation that should have two tapes. -/
theorem pairs_one (g : Nat) (t s : Int) (A2 : Option Addr) (c2 : Nat) (a : List Bool) (A3 : Option Addr) (c3 : Nat) (b : List (List Int)) (w : World) (hP : w.heap[g]? = some (.cells #[.int .i64 t, .int .i64 s, .slice A2 a.length c2, .slice A3 b.length c3] 27 (0, 0))) (hA : Arg w A2 c2 a A3 c3 b) (hS : Small a b) :
  Calls Tryd.prog 41 #[.slice (some ⟨g, 0, none⟩) 1 1] w fun e w' => e = .returned (.int .i64 (twoC t s a b)) ∧ Below w.heap.size w w' := by
 have hgp := blk_lt hP
 have m0 : w.cell? ⟨g, 0, none⟩ = some (.int .i64 t) := (blk_cell hP 0).trans rfl
 have m1 : w.cell? ⟨g, 1, none⟩ = some (.int .i64 s) := (blk_cell hP 1).trans rfl
 have m2 : w.cell? ⟨g, 2, none⟩ = some (.slice A2 a.length c2) := (blk_cell hP 2).trans rfl
 have m3 : w.cell? ⟨g, 3, none⟩ = some (.slice A3 b.length c3) := (blk_cell hP 3).trans rfl
 have hv : Aside0 (∀ W, Below w.heap.size w W → Calls Tryd.prog 70 #[.agg #[.int .i64 t, .int .i64 s, .slice A2 a.length c2, .slice A3 b.length c3]] W fun e w' => e = .returned (.bool (okR t s a b)) ∧ Below W.heap.size W w') := ⟨fun W hb => valid t s A2 c2 a A3 c3 b W (hA.below hb).r3 hA.l3 hS.la hS.lb hS.lr⟩
 unfold twoC
 cases ho' : okR t s a b with
 | false =>
  have ho := Aside0.mk ho'
  clear ho'
  rw [if_neg (by simp)]
  go_enter Tryd.func41, Tryd.ntmps41
  go_wp2_with fail
  go_loopg [9] 1 (fun kq v9 W => v9 = .int .i64 0 ∧ W = w)
  case atStart => exact ⟨rfl, rfl⟩
  case round =>
   obtain ⟨rfl, rfl⟩ := hrel
   go_wp2_with (go_at_call 70; go_loud (
    with_reducible refine (hv.out _ (by repeat (first | exact Below.refl _ _ | apply below_alloc | (refine Below.setCell ?_ (by simp) _)))).mono ?_
    rintro e w1 ⟨he, hb1⟩
    rw [ho.out] at he
    subst he
    have hB1 : Below wr.heap.size wr w1 := below_step (by repeat (first | exact Below.refl _ _ | apply below_alloc | (refine Below.setCell ?_ (by simp) _))) hb1))
   go_ret
   exact ⟨rfl, hB1⟩
 | true =>
  have ho := Aside0.mk ho'
  clear ho'
  rw [if_pos rfl]
  have hw1 : wrap64 (0 + 1) = 1 := by unfold wrap64; decide
  by_cases h : t = 2
  ·rw [if_pos h]
   have h1 : (t = 2) = True := eq_true h
   have h2 : (t == 2) = true := by simp [h]
   have h3 : (t != 2) = false := by simp [h]
   clear h
   go_enter Tryd.func41, Tryd.ntmps41
   go_wp2_with fail
   go_loopg [9] 2 (fun kq v9 W => (v9 = .int .i64 0 ∧ Aside0 (kq = 2) ∧ W = w) ∨ (v9 = .int .i64 1 ∧ Aside0 (kq = 1) ∧ Aside0 (Below w.heap.size w W)))
   case atStart => exact .inl ⟨rfl, ⟨rfl⟩, rfl⟩
   case round =>
    rcases hrel with ⟨rfl, hk, rfl⟩ | ⟨rfl, hk, hb0⟩
    ·go_wp2_with (go_at_call 70; go_loud (
      with_reducible refine (hv.out _ (by repeat (first | exact Below.refl _ _ | apply below_alloc | (refine Below.setCell ?_ (by simp) _)))).mono ?_
      rintro e w1 ⟨he, hb1⟩
      rw [ho.out] at he
      subst he
      have hB1 : Below wr.heap.size wr w1 := below_step (by repeat (first | exact Below.refl _ _ | apply below_alloc | (refine Below.setCell ?_ (by simp) _))) hb1))
     go_roundg 1
     case measure => have := hk.out; omega
     case rel => exact .inr ⟨(by first | rfl | go_num), ⟨rfl⟩, ⟨hB1⟩⟩
    ·have m0 := at_cell hb0.out m0
     have m1 := at_cell hb0.out m1
     have m2 := at_cell hb0.out m2
     have m3 := at_cell hb0.out m3
     go_wp2_with fail
     go_loopg [19] 2 (fun kq v19 W => (v19 = .int .i64 0 ∧ Aside0 (kq = 2) ∧ W = wr) ∨ (v19 = .int .i64 1 ∧ Aside0 (kq = 1) ∧ Aside0 (Below w.heap.size w W)))
     case atStart => exact .inl ⟨rfl, ⟨rfl⟩, rfl⟩
     case round =>
      rcases hrel with ⟨rfl, hk, rfl⟩ | ⟨rfl, hk, hb1⟩
      ·go_wp2_with fail
       go_roundg 1
       case measure => have := hk.out; omega
       case rel => exact .inr ⟨(by first | rfl | go_num), ⟨rfl⟩, ⟨by repeat (first | exact hb0.out | apply below_alloc | (refine Below.setCell ?_ (by have := Below.size hb0.out; simp <;> omega) _))⟩⟩
      ·go_wp2_with fail
       go_ret
       exact ⟨rfl, hb1.out⟩
  ·rw [if_neg h]
   have h1 : (t = 2) = False := eq_false h
   have h2 : (t == 2) = false := beq_eq_false_iff_ne.mpr h
   have h3 : (t != 2) = true := bne_iff_ne.mpr h
   clear h
   go_enter Tryd.func41, Tryd.ntmps41
   go_wp2_with fail
   go_loopg [9] 2 (fun kq v9 W => (v9 = .int .i64 0 ∧ Aside0 (kq = 2) ∧ W = w) ∨ (v9 = .int .i64 1 ∧ Aside0 (kq = 1) ∧ Aside0 (Below w.heap.size w W)))
   case atStart => exact .inl ⟨rfl, ⟨rfl⟩, rfl⟩
   case round =>
    rcases hrel with ⟨rfl, hk, rfl⟩ | ⟨rfl, hk, hb0⟩
    ·go_wp2_with (go_at_call 70; go_loud (
      with_reducible refine (hv.out _ (by repeat (first | exact Below.refl _ _ | apply below_alloc | (refine Below.setCell ?_ (by simp) _)))).mono ?_
      rintro e w1 ⟨he, hb1⟩
      rw [ho.out] at he
      subst he
      have hB1 : Below wr.heap.size wr w1 := below_step (by repeat (first | exact Below.refl _ _ | apply below_alloc | (refine Below.setCell ?_ (by simp) _))) hb1))
     go_roundg 1
     case measure => have := hk.out; omega
     case rel => exact .inr ⟨(by first | rfl | go_num), ⟨rfl⟩, ⟨hB1⟩⟩
    ·have m0 := at_cell hb0.out m0
     have m1 := at_cell hb0.out m1
     have m2 := at_cell hb0.out m2
     have m3 := at_cell hb0.out m3
     go_wp2_with fail
     go_loopg [19] 2 (fun kq v19 W => v19 = .int .i64 0 ∧ W = wr)
     case atStart => exact ⟨rfl, rfl⟩
     case round =>
      obtain ⟨rfl, rfl⟩ := hrel
      go_wp2_with fail
      go_ret
      exact ⟨rfl, by repeat (first | exact hb0.out | apply below_alloc | (refine Below.setCell ?_ (by have := Below.size hb0.out; simp <;> omega) _))⟩
/-- Two relations that hold the same are told equal. -/
theorem eq_same (t s : Int) (A2 : Option Addr) (c2 : Nat) (a : List Bool) (A3 : Option Addr) (c3 : Nat) (b : List (List Int)) (B2 : Option Addr) (d2 : Nat) (B3 : Option Addr) (d3 : Nat) (w : World) (hA : Arg w A2 c2 a A3 c3 b) (hB : Arg w B2 d2 a B3 d3 b) (hS : Small a b) :
  Calls Tryd.prog 10 #[.agg #[.int .i64 t, .int .i64 s, .slice A2 a.length c2, .slice A3 b.length c3], .agg #[.int .i64 t, .int .i64 s, .slice B2 a.length d2, .slice B3 b.length d3]] w fun e w' => e = .returned (.bool true) ∧ Below w.heap.size w w' := by
 obtain ⟨k1, hk1⟩ := (eqBool_ev a hS.la).rounds
 obtain ⟨k2, hk2⟩ := (eqRows_ev b hS.lb hS.lr).rounds
 have hk1 := Aside0.mk hk1
 have hk2 := Aside0.mk hk2
 have hb0 : Below w.heap.size w ((w.alloc (.cells #[.int .i64 t, .int .i64 s, .slice A2 a.length c2, .slice A3 b.length c3] 27)).alloc (.cells #[.int .i64 t, .int .i64 s, .slice B2 a.length d2, .slice B3 b.length d3] 27)) := below_alloc (below_alloc (Below.refl _ _) _) _
 have p3 : ((w.alloc (.cells #[.int .i64 t, .int .i64 s, .slice A2 a.length c2, .slice A3 b.length c3] 27)).alloc (.cells #[.int .i64 t, .int .i64 s, .slice B2 a.length d2, .slice B3 b.length d3] 27)).cell? ⟨w.heap.size, 3, none⟩ = some (.slice A3 b.length c3) := (blk_cell (blk_alloc (blk_new w (.cells #[.int .i64 t, .int .i64 s, .slice A2 a.length c2, .slice A3 b.length c3] 27)) _) 3).trans rfl
 have q3 : ((w.alloc (.cells #[.int .i64 t, .int .i64 s, .slice A2 a.length c2, .slice A3 b.length c3] 27)).alloc (.cells #[.int .i64 t, .int .i64 s, .slice B2 a.length d2, .slice B3 b.length d3] 27)).cell? ⟨w.heap.size + 1, 3, none⟩ = some (.slice B3 b.length d3) := (blk_cell (blk_at _ _ _ (by simp)) 3).trans rfl
 go_enter Tryd.func10, Tryd.ntmps10
 go_wp2_with (first
  | (go_at_call 32; go_loud (
    with_reducible refine (laws_eqBoolS.calls k1 _ _ a _ _ a true _ (Kd.C_below hA.r2 hb0) hA.l2 (Kd.C_below hB.r2 hb0) hB.l2 hk1.out).mono ?_
    rintro e w1 ⟨rfl, hd1⟩
    have hb1 := hd1.below
    have r3 := at_cell hb1 p3
    have s3 := at_cell hb1 q3
    have hB1 := below_step hb0 hb1))
  | (go_at_call 33; go_loud (
    with_reducible refine (laws_eqInt64SS.calls k2 _ _ b _ _ b true _ (Kd.C_below hA.r3 hB1) hA.l3 (Kd.C_below hB.r3 hB1) hB.l3 hk2.out).mono ?_
    rintro e w2 ⟨rfl, hd2⟩
    have hB2 := below_step hB1 hd2.below)))
 go_ret
 exact ⟨rfl, hB2⟩
end Go.Proofs.YtnjdkhnepmmfgaaDoor.Lr
namespace Go.Proofs.YtnjdkhnepmmfgaaDoor.Gv
set_option linter.unusedVariables false
set_option linter.unusedSimpArgs false
open Go Go.RowKit Go.Proofs.YtnjdkhnepmmfgaaDoorW.PrintWords Go.Proofs.YtnjdkhnepmmfgaaDoorW.PrintLast Go.Proofs.YtnjdkhnepmmfgaaDoorW.PrintMore Kp Mk Tr Lr
/-- A relation's box. -/
abbrev Box (W : World) (g : Nat) (t s : Int) (A2 : Option Addr) (n2 c2 : Nat) (A3 : Option Addr) (n3 c3 : Nat) : Prop := W.heap[g]? = some (.cells #[.int .i64 t, .int .i64 s, .slice A2 n2 c2, .slice A3 n3 c3] 27 (0, 0))
abbrev ZBox (W : World) (g : Nat) : Prop := Box W g 0 0 none 0 0 none 0 0
section
variable {w W : World} {g : Nat} {t s : Int} {A2 A3 : Option Addr} {n2 c2 n3 c3 : Nat}
theorem box (h : Box W g t s A2 n2 c2 A3 n3 c3) : W.cell? ⟨g, 0, none⟩ = some (.int .i64 t) ∧ W.cell? ⟨g, 1, none⟩ = some (.int .i64 s) ∧ W.cell? ⟨g, 2, none⟩ = some (.slice A2 n2 c2) ∧ W.cell? ⟨g, 3, none⟩ = some (.slice A3 n3 c3) :=
 ⟨(blk_cell h 0).trans rfl, (blk_cell h 1).trans rfl, (blk_cell h 2).trans rfl, (blk_cell h 3).trans rfl⟩
theorem box_open (h : Box W g t s A2 n2 c2 A3 n3 c3) : W.frozen? ⟨g, 0, none⟩ = false ∧ W.frozen? ⟨g, 1, none⟩ = false ∧ W.frozen? ⟨g, 2, none⟩ = false ∧ W.frozen? ⟨g, 3, none⟩ = false := ⟨blk_frozen h 0, blk_frozen h 1, blk_frozen h 2, blk_frozen h 3⟩
/-- The world behind the stores of a result into its box. -/
def put4 (W : World) (g : Nat) (t s : Int) (A2 : Option Addr) (n2 c2 : Nat) (A3 : Option Addr) (n3 c3 : Nat) : World := (((W.setCell ⟨g, 0, none⟩ (.int .i64 t)).setCell ⟨g, 1, none⟩ (.int .i64 s)).setCell ⟨g, 2, none⟩ (.slice A2 n2 c2)).setCell ⟨g, 3, none⟩ (.slice A3 n3 c3)
theorem put_box {t' s' : Int} {A2' A3' : Option Addr} {n2' c2' n3' c3' : Nat} (h : Box W g t' s' A2' n2' c2' A3' n3' c3') : Box (put4 W g t s A2 n2 c2 A3 n3 c3) g t s A2 n2 c2 A3 n3 c3 := blk_put (blk_put (blk_put (blk_put h 0 _ rfl) 1 _ rfl) 2 _ rfl) 3 _ rfl
theorem put_below (hb : Below w.heap.size w W) (hg : w.heap.size ≤ g) : Below w.heap.size w (put4 W g t s A2 n2 c2 A3 n3 c3) := (((hb.setCell hg _).setCell hg _).setCell hg _).setCell hg _
theorem put_rel {base : Nat} {ok : Nat → Prop} {B2 B3 : Option Addr} {d2 d3 : Nat} {a : List Bool} {b : List (List Int)} {t' s' : Int} {A2' A3' : Option Addr} {n2' c2' n3' c3' : Nat} (hR : Rel W base ok B2 d2 a B3 d3 b) (h : Box W g t' s' A2' n2' c2' A3' n3' c3') : Rel (put4 W g t s A2 n2 c2 A3 n3 c3) base ok B2 d2 a B3 d3 b := by
 have b1 := blk_put h 0 (.int .i64 t) rfl
 have b2 := blk_put b1 1 (.int .i64 s) rfl
 have b3 := blk_put b2 2 (.slice A2 n2 c2) rfl
 have hR2 := hR.r2
 have hR3 := hR.r3
 exact ⟨Kd.R_set (Kd.R_set (Kd.R_set (Kd.R_set hR2 h (by decide) 0 _) b1 (by decide) 1 _) b2 (by decide) 2 _) b3 (by decide) 3 _, Kd.S_set (Kd.S_set (Kd.S_set (Kd.S_set hR3 h (by decide) 0 _) b1 (by decide) 1 _) b2 (by decide) 2 _) b3 (by decide) 3 _⟩
/-- A relation that was given is put into the result's box, and returned. -/
theorem gives_put {R : RRes} {base : Nat} {F2 F3 : Option Addr} {y2 y3 : Nat} (hR : Rel W base (fun _ => True) F2 y2 R.a F3 y3 R.b) (hz : ZBox W g) (hb : Below w.heap.size w W) (hg : w.heap.size ≤ g) (hl : w.heap.size ≤ base) :
  Gives R w (.returned (.tuple #[.agg #[.int .i64 R.t, .int .i64 R.s, .slice F2 R.a.length y2, .slice F3 R.b.length y3], .int .i64 R.c])) (put4 W g R.t R.s F2 R.a.length y2 F3 R.b.length y3) := by
 have h := put_rel (t := R.t) (s := R.s) (A2 := F2) (n2 := R.a.length) (c2 := y2) (A3 := F3) (n3 := R.b.length) (c3 := y3) hR hz
 have hr2 := h.r2
 have hr3 := h.r3
 exact ⟨F2, y2, F3, y3, rfl, ⟨Kd.R_lower hr2 hl, Kd.S_lower hr3 hl⟩, put_below hb hg⟩
theorem bad_put {c : Int} (hz : ZBox W g) (hb : Below w.heap.size w W) (hg : w.heap.size ≤ g) : Gives (bad c) w (.returned (.tuple #[.agg #[.int .i64 0, .int .i64 0, .slice none 0 0, .slice none 0 0], .int .i64 c])) (put4 W g 0 0 none 0 0 none 0 0) :=
 gives_bad rfl (put_below hb hg)
end
end Go.Proofs.YtnjdkhnepmmfgaaDoor.Gv
namespace Go.Proofs.YtnjdkhnepmmfgaaDoor.Cod
set_option linter.unusedVariables false
set_option linter.unusedSimpArgs false
open Go Go.RowKit Go.Proofs.YtnjdkhnepmmfgaaDoorW.PrintWords Go.Proofs.YtnjdkhnepmmfgaaDoorW.PrintLast Go.Proofs.YtnjdkhnepmmfgaaDoorW.PrintMore Kp PT3 PureRel Lr Gv
/-- The code of two relations. -/
def two2 (t s : Int) (a : List Bool) (b : List (List Int)) (t' s' : Int) (a' : List Bool) (b' : List (List Int)) : Int := if okR t s a b = true ∧ okR t' s' a' b' = true then (if t = t' then 0 else 2) else 1
/-- The code of a relation of two tapes and a domain. -/
def domC (t s : Int) (a : List Bool) (b : List (List Int)) (t' s' : Int) (a' : List Bool) (b' : List (List Int)) : Int := if okR t' s' a' b' = true then (if twoC t s a b = 0 then (if t' = 1 then 0 else 2) else twoC t s a b) else 1
theorem domC_is {t s : Int} {a : List Bool} {b : List (List Int)} {t' s' : Int} {a' : List Bool} {b' : List (List Int)} : domC t s a b t' s' a' b' = if okR t s a b = true ∧ okR t' s' a' b' = true then (if t = 2 ∧ t' = 1 then 0 else 2) else 1 := by
 unfold domC twoC
 cases okR t s a b <;> cases okR t' s' a' b' <;> by_cases h1 : t = 2 <;> by_cases h2 : t' = 1 <;> simp [h1, h2]
set_option maxHeartbeats 2000000 in
theorem two_s (gr gs : Nat) (t s : Int) (A2 : Option Addr) (c2 : Nat) (a : List Bool) (A3 : Option Addr) (c3 : Nat) (b : List (List Int)) (t' s' : Int) (B2 : Option Addr) (d2 : Nat) (a' : List Bool) (B3 : Option Addr) (d3 : Nat) (b' : List (List Int)) (w : World) (hP : Box w gr t s A2 a.length c2 A3 b.length c3) (hQ : Box w gs t' s' B2 a'.length d2 B3 b'.length d3) (hA : Arg w A2 c2 a A3 c3 b) (hB : Arg w B2 d2 a' B3 d3 b') (hS : Small a b) (hS' : Small a' b') :
  Calls Tryd.prog 98 #[.pointer (some ⟨gr, 0, none⟩), .pointer (some ⟨gs, 0, none⟩)] w fun e w' => e = .returned (.int .i64 (two2 t s a b t' s' a' b')) ∧ Below w.heap.size w w' := by
 have hok1 := Aside0.mk (ok_spec gr t s A2 c2 a A3 c3 b w hP hA hS)
 have hok2 : Aside0 (∀ W, Below w.heap.size w W → Calls Tryd.prog 65 #[.pointer (some ⟨gs, 0, none⟩)] W fun e w' => e = .returned (.bool (okR t' s' a' b')) ∧ Below W.heap.size W w') := ⟨fun W hb => ok_spec gs t' s' B2 d2 a' B3 d3 b' W (blk_below hQ hb) (hB.below hb) hS'⟩
 unfold two2
 cases h1 : okR t s a b with
 | false =>
  rw [h1] at hok1
  rw [if_neg (by simp)]
  clear h1
  go_enter Tryd.func98, Tryd.ntmps98
  go_wp2_with (go_at_call 65; (with_reducible refine hok1.out.mono ?_); go_loud (
     rintro e w1 ⟨rfl, hb1⟩))
  go_ret
  exact ⟨rfl, hb1⟩
 | true =>
  rw [h1] at hok1
  clear h1
  cases h2 : okR t' s' a' b' with
  | false =>
   simp only [h2] at hok2
   rw [if_neg (by simp)]
   clear h2
   go_enter Tryd.func98, Tryd.ntmps98
   go_wp2_with (first
   | (go_at_call 65; (with_reducible refine hok1.out.mono ?_); go_loud (
     rintro e w1 ⟨rfl, hb1⟩))
   | (go_at_call 65; (with_reducible refine (hok2.out w1 hb1).mono ?_); go_loud (
     rintro e w2 ⟨rfl, hb2⟩
     have hB2 := below_step hb1 hb2)))
   go_ret
   exact ⟨rfl, hB2⟩
  | true =>
   simp only [h2] at hok2
   rw [if_pos ⟨rfl, rfl⟩]
   clear h2
   by_cases h : t = t'
   ·rw [if_pos h]
    subst h
    have z1 : (t != t) = false := by simp
    go_enter Tryd.func98, Tryd.ntmps98
    go_wp2_with (first
   | (go_at_call 65; (with_reducible refine hok1.out.mono ?_); go_loud (
     rintro e w1 ⟨rfl, hb1⟩))
   | (go_at_call 65; (with_reducible refine (hok2.out w1 hb1).mono ?_); go_loud (
     rintro e w2 ⟨rfl, hb2⟩
     have hB2 := below_step hb1 hb2
     have m1 : w2.cell? ⟨gr, 0, none⟩ = some (.int .i64 t) := (blk_cell (blk_below hP hB2) 0).trans rfl
     have m2 : w2.cell? ⟨gs, 0, none⟩ = some (.int .i64 t) := (blk_cell (blk_below hQ hB2) 0).trans rfl)))
    go_quiet (fail)
    go_wp2_with fail
    go_ret
    exact ⟨rfl, by repeat (first | exact hB2 | apply pw_below_drewN | apply below_drew1)⟩
   ·rw [if_neg h]
    have z1 : (t != t') = true := bne_iff_ne.mpr h
    have z2 : (t == t') = false := beq_eq_false_iff_ne.mpr h
    have z3 : (t = t') = False := eq_false h
    clear h
    go_enter Tryd.func98, Tryd.ntmps98
    go_wp2_with (first
   | (go_at_call 65; (with_reducible refine hok1.out.mono ?_); go_loud (
     rintro e w1 ⟨rfl, hb1⟩))
   | (go_at_call 65; (with_reducible refine (hok2.out w1 hb1).mono ?_); go_loud (
     rintro e w2 ⟨rfl, hb2⟩
     have hB2 := below_step hb1 hb2
     have m1 : w2.cell? ⟨gr, 0, none⟩ = some (.int .i64 t) := (blk_cell (blk_below hP hB2) 0).trans rfl
     have m2 : w2.cell? ⟨gs, 0, none⟩ = some (.int .i64 t') := (blk_cell (blk_below hQ hB2) 0).trans rfl)))
    go_quiet (fail)
    go_wp2_with fail
    go_ret
    exact ⟨rfl, by repeat (first | exact hB2 | apply pw_below_drewN | apply below_drew1)⟩
set_option maxHeartbeats 2000000 in
theorem dom_s (gr gs : Nat) (t s : Int) (A2 : Option Addr) (c2 : Nat) (a : List Bool) (A3 : Option Addr) (c3 : Nat) (b : List (List Int)) (t' s' : Int) (B2 : Option Addr) (d2 : Nat) (a' : List Bool) (B3 : Option Addr) (d3 : Nat) (b' : List (List Int)) (w : World) (hP : Box w gr t s A2 a.length c2 A3 b.length c3) (hQ : Box w gs t' s' B2 a'.length d2 B3 b'.length d3) (hA : Arg w A2 c2 a A3 c3 b) (hB : Arg w B2 d2 a' B3 d3 b') (hS : Small a b) (hS' : Small a' b') :
  Calls Tryd.prog 24 #[.pointer (some ⟨gr, 0, none⟩), .pointer (some ⟨gs, 0, none⟩)] w fun e w' => e = .returned (.int .i64 (domC t s a b t' s' a' b')) ∧ Below w.heap.size w w' := by
 have hok1 := Aside0.mk (ok_spec gr t s A2 c2 a A3 c3 b w hP hA hS)
 have hok2 : Aside0 (∀ W, Below w.heap.size w W → Calls Tryd.prog 65 #[.pointer (some ⟨gs, 0, none⟩)] W fun e w' => e = .returned (.bool (okR t' s' a' b')) ∧ Below W.heap.size W w') := ⟨fun W hb => ok_spec gs t' s' B2 d2 a' B3 d3 b' W (blk_below hQ hb) (hB.below hb) hS'⟩
 rw [domC_is]
 cases h1 : okR t s a b with
 | false =>
  rw [h1] at hok1
  rw [if_neg (by simp)]
  clear h1
  go_enter Tryd.func24, Tryd.ntmps24
  go_wp2_with (go_at_call 65; (with_reducible refine hok1.out.mono ?_); go_loud (
     rintro e w1 ⟨rfl, hb1⟩))
  go_ret
  exact ⟨rfl, hb1⟩
 | true =>
  rw [h1] at hok1
  clear h1
  cases h2 : okR t' s' a' b' with
  | false =>
   simp only [h2] at hok2
   rw [if_neg (by simp)]
   clear h2
   go_enter Tryd.func24, Tryd.ntmps24
   go_wp2_with (first
   | (go_at_call 65; (with_reducible refine hok1.out.mono ?_); go_loud (
     rintro e w1 ⟨rfl, hb1⟩))
   | (go_at_call 65; (with_reducible refine (hok2.out w1 hb1).mono ?_); go_loud (
     rintro e w2 ⟨rfl, hb2⟩
     have hB2 := below_step hb1 hb2)))
   go_ret
   exact ⟨rfl, hB2⟩
  | true =>
   simp only [h2] at hok2
   rw [if_pos ⟨rfl, rfl⟩]
   clear h2
   by_cases h : t = 2
   ·subst h
    by_cases h : t' = 1
    ·subst h
     rw [if_pos ⟨rfl, rfl⟩]
     go_enter Tryd.func24, Tryd.ntmps24
     go_wp2_with (first
   | (go_at_call 65; (with_reducible refine hok1.out.mono ?_); go_loud (
     rintro e w1 ⟨rfl, hb1⟩))
   | (go_at_call 65; (with_reducible refine (hok2.out w1 hb1).mono ?_); go_loud (
     rintro e w2 ⟨rfl, hb2⟩
     have hB2 := below_step hb1 hb2
     have m1 : w2.cell? ⟨gr, 0, none⟩ = some (.int .i64 2) := (blk_cell (blk_below hP hB2) 0).trans rfl
     have m2 : w2.cell? ⟨gs, 0, none⟩ = some (.int .i64 1) := (blk_cell (blk_below hQ hB2) 0).trans rfl)))
     go_ret
     exact ⟨rfl, hB2⟩
    ·rw [if_neg (fun e => h e.2)]
     have z1 : (t' != 1) = true := bne_iff_ne.mpr h
     have z2 : (t' == 1) = false := beq_eq_false_iff_ne.mpr h
     have z3 : (t' = 1) = False := eq_false h
     clear h
     go_enter Tryd.func24, Tryd.ntmps24
     go_wp2_with (first
   | (go_at_call 65; (with_reducible refine hok1.out.mono ?_); go_loud (
     rintro e w1 ⟨rfl, hb1⟩))
   | (go_at_call 65; (with_reducible refine (hok2.out w1 hb1).mono ?_); go_loud (
     rintro e w2 ⟨rfl, hb2⟩
     have hB2 := below_step hb1 hb2
     have m1 : w2.cell? ⟨gr, 0, none⟩ = some (.int .i64 2) := (blk_cell (blk_below hP hB2) 0).trans rfl
     have m2 : w2.cell? ⟨gs, 0, none⟩ = some (.int .i64 t') := (blk_cell (blk_below hQ hB2) 0).trans rfl)))
     go_ret
     exact ⟨rfl, hB2⟩
   ·rw [if_neg (fun e => h e.1)]
    have z1 : (t != 2) = true := bne_iff_ne.mpr h
    have z2 : (t == 2) = false := beq_eq_false_iff_ne.mpr h
    have z3 : (t = 2) = False := eq_false h
    clear h
    go_enter Tryd.func24, Tryd.ntmps24
    go_wp2_with (first
   | (go_at_call 65; (with_reducible refine hok1.out.mono ?_); go_loud (
     rintro e w1 ⟨rfl, hb1⟩))
   | (go_at_call 65; (with_reducible refine (hok2.out w1 hb1).mono ?_); go_loud (
     rintro e w2 ⟨rfl, hb2⟩
     have hB2 := below_step hb1 hb2
     have m1 : w2.cell? ⟨gr, 0, none⟩ = some (.int .i64 t) := (blk_cell (blk_below hP hB2) 0).trans rfl
     have m2 : w2.cell? ⟨gs, 0, none⟩ = some (.int .i64 t') := (blk_cell (blk_below hQ hB2) 0).trans rfl)))
    go_ret
    exact ⟨rfl, hB2⟩
set_option maxHeartbeats 2000000 in
theorem two_i (t s : Int) (A2 : Option Addr) (c2 : Nat) (a : List Bool) (A3 : Option Addr) (c3 : Nat) (b : List (List Int)) (t' s' : Int) (B2 : Option Addr) (d2 : Nat) (a' : List Bool) (B3 : Option Addr) (d3 : Nat) (b' : List (List Int)) (w : World) (hA : Arg w A2 c2 a A3 c3 b) (hB : Arg w B2 d2 a' B3 d3 b') (hS : Small a b) (hS' : Small a' b') :
  Calls Tryd.prog 113 #[.agg #[.int .i64 t, .int .i64 s, .slice A2 a.length c2, .slice A3 b.length c3], .agg #[.int .i64 t', .int .i64 s', .slice B2 a'.length d2, .slice B3 b'.length d3]] w fun e w' => e = .returned (.int .i64 (two2 t s a b t' s' a' b')) ∧ Below w.heap.size w w' := by
 have hb0 : Below w.heap.size w ((w.alloc (.cells #[.int .i64 t, .int .i64 s, .slice A2 a.length c2, .slice A3 b.length c3] 27)).alloc (.cells #[.int .i64 t', .int .i64 s', .slice B2 a'.length d2, .slice B3 b'.length d3] 27)) := below_alloc (below_alloc (Below.refl _ _) _) _
 have hP : Box ((w.alloc (.cells #[.int .i64 t, .int .i64 s, .slice A2 a.length c2, .slice A3 b.length c3] 27)).alloc (.cells #[.int .i64 t', .int .i64 s', .slice B2 a'.length d2, .slice B3 b'.length d3] 27)) w.heap.size t s A2 a.length c2 A3 b.length c3 := blk_alloc (blk_new _ _) _
 have hQ : Box ((w.alloc (.cells #[.int .i64 t, .int .i64 s, .slice A2 a.length c2, .slice A3 b.length c3] 27)).alloc (.cells #[.int .i64 t', .int .i64 s', .slice B2 a'.length d2, .slice B3 b'.length d3] 27)) (w.heap.size + 1) t' s' B2 a'.length d2 B3 b'.length d3 := blk_at _ _ _ (by simp)
 have hv1 : Aside0 (∀ W, Below w.heap.size w W → Calls Tryd.prog 70 #[.agg #[.int .i64 t, .int .i64 s, .slice A2 a.length c2, .slice A3 b.length c3]] W fun e w' => e = .returned (.bool (okR t s a b)) ∧ Below W.heap.size W w') := ⟨fun W hb => valid t s A2 c2 a A3 c3 b W (hA.below hb).r3 hA.l3 hS.la hS.lb hS.lr⟩
 have hv2 : Aside0 (∀ W, Below w.heap.size w W → Calls Tryd.prog 70 #[.agg #[.int .i64 t', .int .i64 s', .slice B2 a'.length d2, .slice B3 b'.length d3]] W fun e w' => e = .returned (.bool (okR t' s' a' b')) ∧ Below W.heap.size W w') := ⟨fun W hb => valid t' s' B2 d2 a' B3 d3 b' W (hB.below hb).r3 hB.l3 hS'.la hS'.lb hS'.lr⟩
 unfold two2
 cases h1 : okR t s a b with
 | false =>
  have h1q := Aside0.mk h1
  rw [if_neg (by simp)]
  clear h1
  go_enter Tryd.func113, Tryd.ntmps113
  go_wp2_with (go_at_call 70; (with_reducible refine (hv1.out _ hb0).mono ?_); go_loud (
     rintro e w1 ⟨he, hb1⟩
     rw [h1q.out] at he
     subst he
     have hB1 := below_step hb0 hb1))
  go_ret
  exact ⟨rfl, hB1⟩
 | true =>
  have h1q := Aside0.mk h1
  clear h1
  cases h2 : okR t' s' a' b' with
  | false =>
   have h2q := Aside0.mk h2
   rw [if_neg (by simp)]
   clear h2
   go_enter Tryd.func113, Tryd.ntmps113
   go_wp2_with (first
   | (go_at_call 70; (with_reducible refine (hv1.out _ hb0).mono ?_); go_loud (
     rintro e w1 ⟨he, hb1⟩
     rw [h1q.out] at he
     subst he
     have hB1 := below_step hb0 hb1
     obtain ⟨k0, k1, k2, k3⟩ := box (blk_below hQ hb1)))
   | (go_at_call 70; (with_reducible refine (hv2.out w1 hB1).mono ?_); go_loud (
     rintro e w2 ⟨he, hb2⟩
     rw [h2q.out] at he
     subst he
     have hB2 := below_step hB1 hb2
     have m1 : w2.cell? ⟨w.heap.size, 0, none⟩ = some (.int .i64 t) := (blk_cell (blk_below (blk_below hP hb1) hb2) 0).trans rfl
     have m2 : w2.cell? ⟨w.heap.size + 1, 0, none⟩ = some (.int .i64 t') := (blk_cell (blk_below (blk_below hQ hb1) hb2) 0).trans rfl)))
   go_ret
   exact ⟨rfl, hB2⟩
  | true =>
   have h2q := Aside0.mk h2
   rw [if_pos ⟨rfl, rfl⟩]
   clear h2
   by_cases h : t = t'
   ·rw [if_pos h]
    have z1 : (t != t') = false := bne_eq_false_iff_eq.mpr h
    have z2 : (t == t') = true := beq_iff_eq.mpr h
    have z3 : (t = t') = True := eq_true h
    clear h
    go_enter Tryd.func113, Tryd.ntmps113
    go_wp2_with (first
   | (go_at_call 70; (with_reducible refine (hv1.out _ hb0).mono ?_); go_loud (
     rintro e w1 ⟨he, hb1⟩
     rw [h1q.out] at he
     subst he
     have hB1 := below_step hb0 hb1
     obtain ⟨k0, k1, k2, k3⟩ := box (blk_below hQ hb1)))
   | (go_at_call 70; (with_reducible refine (hv2.out w1 hB1).mono ?_); go_loud (
     rintro e w2 ⟨he, hb2⟩
     rw [h2q.out] at he
     subst he
     have hB2 := below_step hB1 hb2
     have m1 : w2.cell? ⟨w.heap.size, 0, none⟩ = some (.int .i64 t) := (blk_cell (blk_below (blk_below hP hb1) hb2) 0).trans rfl
     have m2 : w2.cell? ⟨w.heap.size + 1, 0, none⟩ = some (.int .i64 t') := (blk_cell (blk_below (blk_below hQ hb1) hb2) 0).trans rfl)))
    go_ret
    exact ⟨rfl, hB2⟩
   ·rw [if_neg h]
    have z1 : (t != t') = true := bne_iff_ne.mpr h
    have z2 : (t == t') = false := beq_eq_false_iff_ne.mpr h
    have z3 : (t = t') = False := eq_false h
    clear h
    go_enter Tryd.func113, Tryd.ntmps113
    go_wp2_with (first
   | (go_at_call 70; (with_reducible refine (hv1.out _ hb0).mono ?_); go_loud (
     rintro e w1 ⟨he, hb1⟩
     rw [h1q.out] at he
     subst he
     have hB1 := below_step hb0 hb1
     obtain ⟨k0, k1, k2, k3⟩ := box (blk_below hQ hb1)))
   | (go_at_call 70; (with_reducible refine (hv2.out w1 hB1).mono ?_); go_loud (
     rintro e w2 ⟨he, hb2⟩
     rw [h2q.out] at he
     subst he
     have hB2 := below_step hB1 hb2
     have m1 : w2.cell? ⟨w.heap.size, 0, none⟩ = some (.int .i64 t) := (blk_cell (blk_below (blk_below hP hb1) hb2) 0).trans rfl
     have m2 : w2.cell? ⟨w.heap.size + 1, 0, none⟩ = some (.int .i64 t') := (blk_cell (blk_below (blk_below hQ hb1) hb2) 0).trans rfl)))
    go_ret
    exact ⟨rfl, hB2⟩
set_option maxHeartbeats 2000000 in
theorem dom_i (t s : Int) (A2 : Option Addr) (c2 : Nat) (a : List Bool) (A3 : Option Addr) (c3 : Nat) (b : List (List Int)) (t' s' : Int) (B2 : Option Addr) (d2 : Nat) (a' : List Bool) (B3 : Option Addr) (d3 : Nat) (b' : List (List Int)) (w : World) (hA : Arg w A2 c2 a A3 c3 b) (hB : Arg w B2 d2 a' B3 d3 b') (hS : Small a b) (hS' : Small a' b') :
  Calls Tryd.prog 29 #[.agg #[.int .i64 t, .int .i64 s, .slice A2 a.length c2, .slice A3 b.length c3], .agg #[.int .i64 t', .int .i64 s', .slice B2 a'.length d2, .slice B3 b'.length d3]] w fun e w' => e = .returned (.int .i64 (domC t s a b t' s' a' b')) ∧ Below w.heap.size w w' := by
 have hb0 : Below w.heap.size w ((w.alloc (.cells #[.int .i64 t, .int .i64 s, .slice A2 a.length c2, .slice A3 b.length c3] 27)).alloc (.cells #[.int .i64 t', .int .i64 s', .slice B2 a'.length d2, .slice B3 b'.length d3] 27)) := below_alloc (below_alloc (Below.refl _ _) _) _
 have hP : Box ((w.alloc (.cells #[.int .i64 t, .int .i64 s, .slice A2 a.length c2, .slice A3 b.length c3] 27)).alloc (.cells #[.int .i64 t', .int .i64 s', .slice B2 a'.length d2, .slice B3 b'.length d3] 27)) w.heap.size t s A2 a.length c2 A3 b.length c3 := blk_alloc (blk_new _ _) _
 have hQ : Box ((w.alloc (.cells #[.int .i64 t, .int .i64 s, .slice A2 a.length c2, .slice A3 b.length c3] 27)).alloc (.cells #[.int .i64 t', .int .i64 s', .slice B2 a'.length d2, .slice B3 b'.length d3] 27)) (w.heap.size + 1) t' s' B2 a'.length d2 B3 b'.length d3 := blk_at _ _ _ (by simp)
 have hv2 : Aside0 (∀ W, Below w.heap.size w W → Calls Tryd.prog 70 #[.agg #[.int .i64 t', .int .i64 s', .slice B2 a'.length d2, .slice B3 b'.length d3]] W fun e w' => e = .returned (.bool (okR t' s' a' b')) ∧ Below W.heap.size W w') := ⟨fun W hb => valid t' s' B2 d2 a' B3 d3 b' W (hB.below hb).r3 hB.l3 hS'.la hS'.lb hS'.lr⟩
 unfold domC
 cases h2 : okR t' s' a' b' with
 | false =>
  have h2q := Aside0.mk h2
  rw [if_neg (by simp)]
  clear h2
  go_enter Tryd.func29, Tryd.ntmps29
  go_wp2_with (go_at_call 70; (with_reducible refine (hv2.out _ hb0).mono ?_); go_loud (
     rintro e w1 ⟨he, hb1⟩
     rw [h2q.out] at he
     subst he
     have hB1 := below_step hb0 hb1))
  go_ret
  exact ⟨rfl, hB1⟩
 | true =>
  have h2q := Aside0.mk h2
  rw [if_pos rfl]
  clear h2
  by_cases hc : twoC t s a b = 0
  ·have hcq := Aside0.mk hc
   rw [if_pos hc]
   clear hc
   by_cases h : t' = 1
   ·rw [if_pos h]
    have z1 : (t' != 1) = false := bne_eq_false_iff_eq.mpr h
    have z2 : (t' == 1) = true := beq_iff_eq.mpr h
    have z3 : (t' = 1) = True := eq_true h
    clear h
    go_enter Tryd.func29, Tryd.ntmps29
    go_wp2_with (first
   | (go_at_call 70; (with_reducible refine (hv2.out _ hb0).mono ?_); go_loud (
     rintro e w1 ⟨he, hb1⟩
     rw [h2q.out] at he
     subst he
     have hB1 := below_step hb0 hb1
     have hb1a : Below w1.heap.size w1 (w1.alloc (.cells #[.int .i64 t, .int .i64 s, .slice A2 a.length c2, .slice A3 b.length c3] 27)) := below_alloc (Below.refl _ _) _
     have hB1a := below_step hB1 hb1a
     obtain ⟨k0, k1, k2, k3⟩ := box (blk_below hP hb1)))
   | (go_at_call 41; go_loud (
     with_reducible refine (pairs_one w1.heap.size t s A2 c2 a A3 c3 b _ (blk_new _ _) (hA.below hB1a) hS).mono ?_
     rintro e w2 ⟨he, hb2⟩
     rw [hcq.out] at he
     subst he
     have hB2 := below_step hB1a hb2
     have m2 : w2.cell? ⟨w.heap.size + 1, 0, none⟩ = some (.int .i64 t') := (blk_cell (blk_below (blk_below (blk_below hQ hb1) hb1a) hb2) 0).trans rfl)))
    go_ret
    exact ⟨rfl, hB2⟩
   ·rw [if_neg h]
    have z1 : (t' != 1) = true := bne_iff_ne.mpr h
    have z2 : (t' == 1) = false := beq_eq_false_iff_ne.mpr h
    have z3 : (t' = 1) = False := eq_false h
    clear h
    go_enter Tryd.func29, Tryd.ntmps29
    go_wp2_with (first
   | (go_at_call 70; (with_reducible refine (hv2.out _ hb0).mono ?_); go_loud (
     rintro e w1 ⟨he, hb1⟩
     rw [h2q.out] at he
     subst he
     have hB1 := below_step hb0 hb1
     have hb1a : Below w1.heap.size w1 (w1.alloc (.cells #[.int .i64 t, .int .i64 s, .slice A2 a.length c2, .slice A3 b.length c3] 27)) := below_alloc (Below.refl _ _) _
     have hB1a := below_step hB1 hb1a
     obtain ⟨k0, k1, k2, k3⟩ := box (blk_below hP hb1)))
   | (go_at_call 41; go_loud (
     with_reducible refine (pairs_one w1.heap.size t s A2 c2 a A3 c3 b _ (blk_new _ _) (hA.below hB1a) hS).mono ?_
     rintro e w2 ⟨he, hb2⟩
     rw [hcq.out] at he
     subst he
     have hB2 := below_step hB1a hb2
     have m2 : w2.cell? ⟨w.heap.size + 1, 0, none⟩ = some (.int .i64 t') := (blk_cell (blk_below (blk_below (blk_below hQ hb1) hb1a) hb2) 0).trans rfl)))
    go_ret
    exact ⟨rfl, hB2⟩
  ·rw [if_neg hc]
   obtain ⟨C, hC⟩ : ∃ C, twoC t s a b = C := ⟨_, rfl⟩
   rw [hC] at hc ⊢
   have hcq := Aside0.mk hC
   have z1 : (C != 0) = true := bne_iff_ne.mpr hc
   have z2 : (C == 0) = false := beq_eq_false_iff_ne.mpr hc
   have z3 : (C = 0) = False := eq_false hc
   clear hc hC
   go_enter Tryd.func29, Tryd.ntmps29
   go_wp2_with (first
   | (go_at_call 70; (with_reducible refine (hv2.out _ hb0).mono ?_); go_loud (
     rintro e w1 ⟨he, hb1⟩
     rw [h2q.out] at he
     subst he
     have hB1 := below_step hb0 hb1
     have hb1a : Below w1.heap.size w1 (w1.alloc (.cells #[.int .i64 t, .int .i64 s, .slice A2 a.length c2, .slice A3 b.length c3] 27)) := below_alloc (Below.refl _ _) _
     have hB1a := below_step hB1 hb1a
     obtain ⟨k0, k1, k2, k3⟩ := box (blk_below hP hb1)))
   | (go_at_call 41; go_loud (
     with_reducible refine (pairs_one w1.heap.size t s A2 c2 a A3 c3 b _ (blk_new _ _) (hA.below hB1a) hS).mono ?_
     rintro e w2 ⟨he, hb2⟩
     rw [hcq.out] at he
     subst he
     have hB2 := below_step hB1a hb2
     have m2 : w2.cell? ⟨w.heap.size + 1, 0, none⟩ = some (.int .i64 t') := (blk_cell (blk_below (blk_below (blk_below hQ hb1) hb1a) hb2) 0).trans rfl)))
   go_ret
   exact ⟨rfl, hB2⟩
end Go.Proofs.YtnjdkhnepmmfgaaDoor.Cod
namespace Go.Proofs.YtnjdkhnepmmfgaaDoor.Sb
set_option linter.unusedVariables false
set_option linter.unusedSimpArgs false
open Go.RowKit Go.Proofs.YtnjdkhnepmmfgaaDoorW.PrintWords Go.Proofs.YtnjdkhnepmmfgaaDoorW.PrintLast Go.Proofs.YtnjdkhnepmmfgaaDoorW.PrintMore Mp Kp Mg Tdy Rg Tw
abbrev Pair := Kd.arr 2 (Kd.int .i64) (by decide)
abbrev Text2 := Kd.arr 2 Kd.string (by decide)
def encI (l : List Int) : Array Value := (encs (Value.int .i64) l).toArray
def encT (l : List ByteArray) : Array Value := (encs Value.string l).toArray
def ab (b : Nat) : ByteArray := if b = 0 then ⟨#[97]⟩ else ⟨#[98]⟩
abbrev St := List Nat × List Int × List ByteArray
/-- One pair of letters (a, b). -/
def pairF (lv : Nat → Bool) (r : List Nat) (a b : Nat) (s : St) : Option St :=
 if a = 2 ∧ b = 2 then some s
 else if lv (r.getD (a + 3 * b) 0) = false then some s
 else if a = 2 ∨ b = 2 ∨ 0 ≤ s.2.1.getD a (-1) then none
 else match find id (r.getD (a + 3 * b) 0) s.1 with
  | some j => some (s.1, s.2.1.set a (j : Int), s.2.2.set a (ab b))
  | none => some (s.1 ++ [r.getD (a + 3 * b) 0], s.2.1.set a (s.1.length : Int), s.2.2.set a (ab b))
def runB (lv : Nat → Bool) (r : List Nat) (a : Nat) : List Nat → St → Option St
 | [], s => some s
 | b :: bs, s => (pairF lv r a b s).bind (runB lv r a bs)
def runA (lv : Nat → Bool) (r : List Nat) : List Nat → St → Option St
 | [], s => some s
 | a :: l, s => (runB lv r a [0, 1, 2] s).bind (runA lv r l)
def rowT (lv : Nat → Bool) (r : List Nat) (li : List Nat) : Option St := runA lv r [0, 1, 2] (li, [-1, -1], [⟨#[]⟩, ⟨#[]⟩])
abbrev Sc := List Nat × List (List Int) × List (List ByteArray)
/-- 'none': more rounds are wanted; 'some none': there is no scribe. -/
def scr (lv : Nat → Bool) (rows : List (List Nat)) : Nat → Nat → List Nat → List (List Int) → List (List ByteArray) → Option (Option Sc)
 | 0, _, _, _, _ => none
 | f + 1, i, li, nx, ot =>
  if h : i < li.length then
   match rowT lv (rows.getD li[i] []) li with
   | none => some none
   | some s => scr lv rows f (i + 1) s.1 (nx ++ [s.2.1]) (ot ++ [s.2.2])
  else some (some (li, nx, ot))
/-- What stands in memory: the scribe, the map, the list, the machine's parts of it; xN and xO: the arrays of the round. All of it is newer than w0. -/
structure Mem (w0 : World) (gX mb : Nat) (xN xO : Option Nat) (em : List Int) (vL : Value) (li : List Nat) (vA : Value) (bs : List Bool) (vN : Value) (nx : List (List Int)) (vO : Value) (ot : List (List ByteArray)) (W : World) : Prop where
 bX : W.heap[gX]? = some (.cells #[vA, vN, vO] 37 (0, 0))
 map : FMap Tryd.prog 3 W mb (GwI.ents em)
 lst : Kd.R (Kd.int .i64) 3 W w0.heap.size (fun _ => True) vL (ints li)
 acc : Kd.R Kd.bool 4 W w0.heap.size (fun _ => True) vA bs
 nxt : Kd.R Pair 78 W w0.heap.size (fun k => some k ≠ xN) vN nx
 out : Kd.R Text2 79 W w0.heap.size (fun k => some k ≠ xO) vO ot
 hX : w0.heap.size ≤ gX
 hm : w0.heap.size ≤ mb
 bel : Below w0.heap.size w0 W
section
variable {w0 : World} {gX mb : Nat} {xN xO : Option Nat} {em : List Int} {vL : Value} {li : List Nat} {vA : Value} {bs : List Bool} {vN : Value} {nx : List (List Int)} {vO : Value} {ot : List (List ByteArray)} {W W' : World}
theorem Mem.put (h : Mem w0 gX mb xN xO em vL li vA bs vN nx vO ot W) {em' : List Int} (hg : W.grownBy W' (some mb)) (hF : FMap Tryd.prog 3 W' mb (GwI.ents em')) : Mem w0 gX mb xN xO em' vL li vA bs vN nx vO ot W' := by
 have hk := Keep.grown hg
 have o : ∀ E : List Nat, Off W (some mb) E := fun E => Off.map h.map E
 exact ⟨hk.obj h.bX (off_ne h.bX (o _)), hF, R_off h.lst hk (o _), R_off h.acc hk (o _), R_off h.nxt hk (o _), R_off h.out hk (o _), h.hX, h.hm, h.bel.grown hg (Below.size h.bel) (fun k hk => by cases hk; exact h.hm)⟩
theorem Mem.setN {gN : Nat} {c : Array Value} (h : Mem w0 gX mb (some gN) xO em vL li vA bs vN nx vO ot W) (hb : W.heap[gN]? = some (.cells c 78 (0, 0))) (hg : w0.heap.size ≤ gN) (i : Nat) (v : Value) : Mem w0 gX mb (some gN) xO em vL li vA bs vN nx vO ot (W.setCell ⟨gN, i, none⟩ v) := by
 have hk := Keep.set W ⟨gN, i, none⟩ v
 have o : ∀ E : List Nat, (∀ q ∈ E, q ≠ 78) → Off W (some gN) E := fun E hE => Off.cells hb hE
 have hn := R_apart (ok := fun k => some k ≠ some gN) (Kd.R_mono h.nxt (fun k hk => ⟨hk, hk⟩)) hk
 exact ⟨hk.obj h.bX (off_ne h.bX (o _ (by decide))), map_keep h.map hk (fun e => map_ne h.map hb (Option.some.inj e)), R_off h.lst hk (o _ (by decide)), R_off h.acc hk (o _ (by decide)), Kd.R_mono hn (fun k hk => hk.1), R_off h.out hk (o _ (by decide)), h.hX, h.hm, h.bel.setCell hg _⟩
theorem Mem.setO {gO : Nat} {c : Array Value} (h : Mem w0 gX mb xN (some gO) em vL li vA bs vN nx vO ot W) (hb : W.heap[gO]? = some (.cells c 79 (0, 0))) (hg : w0.heap.size ≤ gO) (i : Nat) (v : Value) : Mem w0 gX mb xN (some gO) em vL li vA bs vN nx vO ot (W.setCell ⟨gO, i, none⟩ v) := by
 have hk := Keep.set W ⟨gO, i, none⟩ v
 have o : ∀ E : List Nat, (∀ q ∈ E, q ≠ 79) → Off W (some gO) E := fun E hE => Off.cells hb hE
 have hn := R_apart (ok := fun k => some k ≠ some gO) (Kd.R_mono h.out (fun k hk => ⟨hk, hk⟩)) hk
 exact ⟨hk.obj h.bX (off_ne h.bX (o _ (by decide))), map_keep h.map hk (fun e => map_ne h.map hb (Option.some.inj e)), R_off h.lst hk (o _ (by decide)), R_off h.acc hk (o _ (by decide)), R_off h.nxt hk (o _ (by decide)), Kd.R_mono hn (fun k hk => hk.1), h.hX, h.hm, h.bel.setCell hg _⟩
theorem Mem.done (h : Mem w0 gX mb xN xO em vL li vA bs vN nx vO ot W) : Mem w0 gX mb none none em vL li vA bs vN nx vO ot W :=
 ⟨h.bX, h.map, h.lst, h.acc, Kd.R_mono h.nxt (fun _ _ => by simp), Kd.R_mono h.out (fun _ _ => by simp), h.hX, h.hm, h.bel⟩
end
section
variable {lv : Nat → Bool} {r : List Nat} {a b : Nat} {s : St}
end
/-- What holds of the list and the arrays while a row is made. -/
structure Inv (n : Nat) (li : List Nat) (s : St) : Prop where
 pre : ∃ m, s.1 = li ++ m
 lt : ∀ q ∈ s.1, q < n
 nd : s.1.Nodup
 lN : s.2.1.length = 2
 lO : s.2.2.length = 2
theorem Inv.le {n : Nat} {li : List Nat} {s : St} (h : Inv n li s) : s.1.length ≤ n := by
 have := Go.Proofs.YtnjdkhnepmmfgaaDoor.Tdy.nodup_le (l := s.1) (m := List.range n) h.nd (fun x hx => List.mem_range.2 (h.lt x hx))
 rwa [List.length_range] at this
theorem Inv.set {n : Nat} {li : List Nat} {s : St} (h : Inv n li s) (a : Nat) (x : Int) (t : ByteArray) : Inv n li (s.1, s.2.1.set a x, s.2.2.set a t) := ⟨h.pre, h.lt, h.nd, by simp [h.lN], by simp [h.lO]⟩
/-- What stands in memory while a row is made. -/
structure Now (w0 : World) (gX mb gN gO : Nat) (vL : Value) (s : St) (vA : Value) (bs : List Bool) (vN : Value) (nx : List (List Int)) (vO : Value) (ot : List (List ByteArray)) (W : World) : Prop where
 m : Mem w0 gX mb (some gN) (some gO) (ints s.1) vL s.1 vA bs vN nx vO ot W
 bN : W.heap[gN]? = some (.cells (encI s.2.1) 78 (0, 0))
 bO : W.heap[gO]? = some (.cells (encT s.2.2) 79 (0, 0))
 hN : w0.heap.size ≤ gN
 hO : w0.heap.size ≤ gO
section
variable {w0 : World} {gX mb gN gO : Nat} {vL : Value} {s : St} {vA : Value} {bs : List Bool} {vN : Value} {nx : List (List Int)} {vO : Value} {ot : List (List ByteArray)} {W W' : World}
theorem encI_set (l : List Int) (a : Nat) (x : Int) : (encI l).setIfInBounds a (.int .i64 x) = encI (l.set a x) := by simp [encI, encs]
theorem encT_set (l : List ByteArray) (a : Nat) (x : ByteArray) : (encT l).setIfInBounds a (.string x) = encT (l.set a x) := by simp [encT, encs]
theorem Now.set (h : Now w0 gX mb gN gO vL s vA bs vN nx vO ot W) (a : Nat) (x : Int) (t : ByteArray) : Now w0 gX mb gN gO vL (s.1, s.2.1.set a x, s.2.2.set a t) vA bs vN nx vO ot ((W.setCell ⟨gN, a, none⟩ (.int .i64 x)).setCell ⟨gO, a, none⟩ (.string t)) := by
 have k1 := Keep.set W ⟨gN, a, none⟩ (.int .i64 x)
 have b1 := k1.obj h.bO (off_ne h.bO (Off.cells h.bN (by decide)))
 have b2 := blk_put h.bN a (.int .i64 x) (encI_set _ _ _)
 have k2 := Keep.set (W.setCell ⟨gN, a, none⟩ (.int .i64 x)) ⟨gO, a, none⟩ (.string t)
 exact ⟨(h.m.setN h.bN h.hN a _).setO b1 h.hO a _, k2.obj b2 (off_ne b2 (Off.cells b1 (by decide))), blk_put b1 a (.string t) (encT_set _ _ _), h.hN, h.hO⟩
end
end Go.Proofs.YtnjdkhnepmmfgaaDoor.Sb
namespace Go.Proofs.YtnjdkhnepmmfgaaDoor.Sp
set_option linter.unusedVariables false
set_option linter.unusedSimpArgs false
open Go.RowKit Go.Proofs.YtnjdkhnepmmfgaaDoorW.PrintWords Go.Proofs.YtnjdkhnepmmfgaaDoorW.PrintLast Go.Proofs.YtnjdkhnepmmfgaaDoorW.PrintMore Mp Kp Mg Tdy Rg Tw Sb
/-- What stands in memory: the scribe, the table of numbers, the list; xN and xO: the arrays of the round. All of it is newer than w0. -/
structure MemS (w0 : World) (gX gT nT cT : Nat) (xN xO : Option Nat) (tab : List Int) (vL : Value) (li : List Nat) (vA : Value) (bs : List Bool) (vN : Value) (nx : List (List Int)) (vO : Value) (ot : List (List ByteArray)) (W : World) : Prop where
 bX : W.heap[gX]? = some (.cells #[vA, vN, vO] 37 (0, 0))
 tab : SR W w0.heap.size (.slice (some ⟨gT, 0, none⟩) nT cT) tab
 lst : SR W w0.heap.size vL (ints li)
 acc : Kd.R Kd.bool 4 W w0.heap.size (fun _ => True) vA bs
 nxt : Kd.R Pair 78 W w0.heap.size (fun k => some k ≠ xN) vN nx
 out : Kd.R Text2 79 W w0.heap.size (fun k => some k ≠ xO) vO ot
 hX : w0.heap.size ≤ gX
 tl : some gT ≠ vL.ownBlock
 bel : Below w0.heap.size w0 W
section
variable {w0 : World} {gX gT nT cT : Nat} {xN xO : Option Nat} {tab : List Int} {vL : Value} {li : List Nat} {vA : Value} {bs : List Bool} {vN : Value} {nx : List (List Int)} {vO : Value} {ot : List (List ByteArray)} {W W' : World}
/-- The table is written. -/
theorem MemS.set (h : MemS w0 gX gT nT cT xN xO tab vL li vA bs vN nx vO ot W) (hg : w0.heap.size ≤ gT) (i : Nat) (x : Int) : MemS w0 gX gT nT cT xN xO (tab.set i x) vL li vA bs vN nx vO ot (W.setCell ⟨gT, i, none⟩ (.int .i64 x)) := by
 have hk := Keep.set W ⟨gT, i, none⟩ (.int .i64 x)
 have o : ∀ E : List Nat, (∀ q ∈ E, q ≠ 2) → Off W (some gT) E := fun E hE => Off.row h.tab hE
 exact ⟨hk.obj h.bX (off_ne h.bX (o _ (by decide))), Kd.R_putn h.tab (i : Int) x, h.lst.move hk (fun k e e2 => by cases e2; exact h.tl e.symm), R_off h.acc hk (o _ (by decide)), R_off h.nxt hk (o _ (by decide)), R_off h.out hk (o _ (by decide)), h.hX, h.tl, h.bel.setCell hg _⟩
theorem MemS.setN {gN : Nat} {c : Array Value} (h : MemS w0 gX gT nT cT (some gN) xO tab vL li vA bs vN nx vO ot W) (hb : W.heap[gN]? = some (.cells c 78 (0, 0))) (hg : w0.heap.size ≤ gN) (i : Nat) (v : Value) : MemS w0 gX gT nT cT (some gN) xO tab vL li vA bs vN nx vO ot (W.setCell ⟨gN, i, none⟩ v) := by
 have hk := Keep.set W ⟨gN, i, none⟩ v
 have o : ∀ E : List Nat, (∀ q ∈ E, q ≠ 78) → Off W (some gN) E := fun E hE => Off.cells hb hE
 have hn := R_apart (ok := fun k => some k ≠ some gN) (Kd.R_mono h.nxt (fun k hk => ⟨hk, hk⟩)) hk
 exact ⟨hk.obj h.bX (off_ne h.bX (o _ (by decide))), R_off h.tab hk (o _ (by decide)), R_off h.lst hk (o _ (by decide)), R_off h.acc hk (o _ (by decide)), Kd.R_mono hn (fun k hk => hk.1), R_off h.out hk (o _ (by decide)), h.hX, h.tl, h.bel.setCell hg _⟩
theorem MemS.setO {gO : Nat} {c : Array Value} (h : MemS w0 gX gT nT cT xN (some gO) tab vL li vA bs vN nx vO ot W) (hb : W.heap[gO]? = some (.cells c 79 (0, 0))) (hg : w0.heap.size ≤ gO) (i : Nat) (v : Value) : MemS w0 gX gT nT cT xN (some gO) tab vL li vA bs vN nx vO ot (W.setCell ⟨gO, i, none⟩ v) := by
 have hk := Keep.set W ⟨gO, i, none⟩ v
 have o : ∀ E : List Nat, (∀ q ∈ E, q ≠ 79) → Off W (some gO) E := fun E hE => Off.cells hb hE
 have hn := R_apart (ok := fun k => some k ≠ some gO) (Kd.R_mono h.out (fun k hk => ⟨hk, hk⟩)) hk
 exact ⟨hk.obj h.bX (off_ne h.bX (o _ (by decide))), R_off h.tab hk (o _ (by decide)), R_off h.lst hk (o _ (by decide)), R_off h.acc hk (o _ (by decide)), R_off h.nxt hk (o _ (by decide)), Kd.R_mono hn (fun k hk => hk.1), h.hX, h.tl, h.bel.setCell hg _⟩
theorem MemS.done (h : MemS w0 gX gT nT cT xN xO tab vL li vA bs vN nx vO ot W) : MemS w0 gX gT nT cT none none tab vL li vA bs vN nx vO ot W :=
 ⟨h.bX, h.tab, h.lst, h.acc, Kd.R_mono h.nxt (fun _ _ => by simp), Kd.R_mono h.out (fun _ _ => by simp), h.hX, h.tl, h.bel⟩
end
/-- What stands in memory while a row is made. -/
structure NowS (w0 : World) (gX gT nT cT gN gO : Nat) (tab : List Int) (vL : Value) (s : St) (vA : Value) (bs : List Bool) (vN : Value) (nx : List (List Int)) (vO : Value) (ot : List (List ByteArray)) (W : World) : Prop where
 m : MemS w0 gX gT nT cT (some gN) (some gO) tab vL s.1 vA bs vN nx vO ot W
 bN : W.heap[gN]? = some (.cells (Sb.encI s.2.1) 78 (0, 0))
 bO : W.heap[gO]? = some (.cells (Sb.encT s.2.2) 79 (0, 0))
 hN : w0.heap.size ≤ gN
 hO : w0.heap.size ≤ gO
section
variable {w0 : World} {gX gT nT cT gN gO : Nat} {tab : List Int} {vL : Value} {s : St} {vA : Value} {bs : List Bool} {vN : Value} {nx : List (List Int)} {vO : Value} {ot : List (List ByteArray)} {W W' : World}
theorem NowS.setN (h : NowS w0 gX gT nT cT gN gO tab vL s vA bs vN nx vO ot W) (a : Nat) (x : Int) : NowS w0 gX gT nT cT gN gO tab vL (s.1, s.2.1.set a x, s.2.2) vA bs vN nx vO ot (W.setCell ⟨gN, a, none⟩ (.int .i64 x)) := by
 have k1 := Keep.set W ⟨gN, a, none⟩ (.int .i64 x)
 exact ⟨h.m.setN h.bN h.hN a _, blk_put h.bN a (.int .i64 x) (Sb.encI_set _ _ _), k1.obj h.bO (off_ne h.bO (Off.cells h.bN (by decide))), h.hN, h.hO⟩
theorem NowS.setO (h : NowS w0 gX gT nT cT gN gO tab vL s vA bs vN nx vO ot W) (a : Nat) (x : ByteArray) : NowS w0 gX gT nT cT gN gO tab vL (s.1, s.2.1, s.2.2.set a x) vA bs vN nx vO ot (W.setCell ⟨gO, a, none⟩ (.string x)) := by
 have k1 := Keep.set W ⟨gO, a, none⟩ (.string x)
 exact ⟨h.m.setO h.bO h.hO a _, k1.obj h.bN (off_ne h.bN (Off.cells h.bO (by decide))), blk_put h.bO a (.string x) (Sb.encT_set _ _ _), h.hN, h.hO⟩
end
end Go.Proofs.YtnjdkhnepmmfgaaDoor.Sp
namespace Go.Proofs.YtnjdkhnepmmfgaaDoor.Sp
set_option linter.unusedVariables false
set_option linter.unusedSimpArgs false
open Go.RowKit Go.Proofs.YtnjdkhnepmmfgaaDoorW.PrintWords Go.Proofs.YtnjdkhnepmmfgaaDoorW.PrintLast Go.Proofs.YtnjdkhnepmmfgaaDoorW.PrintMore Mp Kp Mg Tdy Rg Tw Sb
/-! ### a row -/
abbrev Ar := List Int × List ByteArray
theorem nn (n : Nat) : ((n : Int) < 0) = False := eq_false (by omega)
/-- The arrays of a round: nothing, or a state. -/
structure ArOk (n : Nat) (p : Ar) : Prop where
 lN : p.1.length = 2
 lO : p.2.length = 2
 st : ∀ x ∈ p.1, x = -1 ∨ ∃ t : Nat, t < n ∧ x = (t : Int)
theorem ArOk.set {n : Nat} {p : Ar} (h : ArOk n p) (x : Nat) {t : Nat} (ht : t < n) (u : ByteArray) : ArOk n (p.1.set x (t : Int), p.2.set x u) :=
 ⟨by simp [h.lN], by simp [h.lO], fun y hy => (List.mem_or_eq_of_mem_set hy).elim (h.st y) (fun e => .inr ⟨t, ht, e⟩)⟩
end Go.Proofs.YtnjdkhnepmmfgaaDoor.Sp
namespace Go.Proofs.YtnjdkhnepmmfgaaDoor.Sb
set_option linter.unusedVariables false
set_option linter.unusedSimpArgs false
open Go.RowKit Go.Proofs.YtnjdkhnepmmfgaaDoorW.PrintWords Go.Proofs.YtnjdkhnepmmfgaaDoorW.PrintLast Go.Proofs.YtnjdkhnepmmfgaaDoorW.PrintMore Mp Kp Ky Mg Tdy Rg Tw
/-- What comes out: marks, numbers, letters, whether there is a scribe. -/
def outcome (accs : List Bool) : Option Sc → List Bool × List (List Int) × List (List ByteArray) × Bool
 | none => ([], [], [], false)
 | some s => (s.1.map (acF accs), s.2.1, s.2.2, true)
end Go.Proofs.YtnjdkhnepmmfgaaDoor.Sb
namespace Go.Proofs.YtnjdkhnepmmfgaaDoor.Sp
set_option linter.unusedVariables false
set_option linter.unusedSimpArgs false
open Go.RowKit Go.Proofs.YtnjdkhnepmmfgaaDoorW.PrintWords Go.Proofs.YtnjdkhnepmmfgaaDoorW.PrintLast Go.Proofs.YtnjdkhnepmmfgaaDoorW.PrintMore Mp Kp Mg Tdy Rg Tw Sb
/-- What holds while places get their numbers. -/
structure NumOk (n : Nat) (li : List Nat) (x : Nat) (tab : List Int) (q : List Nat × List Int) : Prop where
 tab : Tab n q.1 tab
 pre : ∃ m, q.1 = li ++ m
 len : q.2.length = 2
 st : ∀ j, x ≤ j → j < 2 → q.2.getD j (-1) = -1 ∨ ∃ t : Nat, t < n ∧ q.2.getD j (-1) = (t : Int)
theorem getD_set_ne {l : List Int} {i j : Nat} {v d : Int} (h : i ≠ j) : (l.set i v).getD j d = l.getD j d := by
 simp [List.getD_eq_getElem?_getD, List.getElem?_set, h]
theorem NumOk.set {n : Nat} {li : List Nat} {x : Nat} {tab : List Int} {q : List Nat × List Int} (h : NumOk n li x tab q) (j : Int) : NumOk n li (x + 1) tab (q.1, q.2.set x j) :=
 ⟨h.tab, h.pre, by simp [h.len], fun k h1 h2 => by rw [getD_set_ne (by omega)]; exact h.st k (by omega) h2⟩
end Go.Proofs.YtnjdkhnepmmfgaaDoor.Sp
namespace Go.Proofs.YtnjdkhnepmmfgaaDoor.Sp
set_option linter.unusedVariables false
set_option linter.unusedSimpArgs false
open Go.RowKit Go.Proofs.YtnjdkhnepmmfgaaDoorW.PrintWords Go.Proofs.YtnjdkhnepmmfgaaDoorW.PrintLast Go.Proofs.YtnjdkhnepmmfgaaDoorW.PrintMore Mp Kp Mg Tdy Rg Tw Sb
end Go.Proofs.YtnjdkhnepmmfgaaDoor.Sp
namespace Go.Proofs.YtnjdkhnepmmfgaaDoor.Sb
set_option linter.unusedVariables false
set_option linter.unusedSimpArgs false
open Go.RowKit Go.Proofs.YtnjdkhnepmmfgaaDoorW.PrintWords Go.Proofs.YtnjdkhnepmmfgaaDoorW.PrintLast Go.Proofs.YtnjdkhnepmmfgaaDoorW.PrintMore Mp Kp Ky Mg Tdy Rg Tw
end Go.Proofs.YtnjdkhnepmmfgaaDoor.Sb
namespace Go.Proofs.YtnjdkhnepmmfgaaDoor.PC1
open Go.RowKit Go.Proofs.YtnjdkhnepmmfgaaDoorW.PrintWords Go.Proofs.YtnjdkhnepmmfgaaDoorW.PrintLast Go.Proofs.YtnjdkhnepmmfgaaDoorW.PrintMore PB1
attribute [local go_sem] max2_int min2_int max_two min_two max_three min_three max_four min_four   -- for this text's walks alone
set_option linter.unusedVariables false
set_option linter.unusedSimpArgs false
def errW : Option Int → Value
 | none => .nilIface
 | some c => .iface 0 (.int .i64 c)
theorem errW_none : errW none = .nilIface := rfl
theorem errW_some (c : Int) : errW (some c) = .iface 0 (.int .i64 c) := rfl
def rd_L1 (xs : List (List Int)) (i : Int) : (List Int) := xs.getD i.toNat ([] : List Int)
def rd_L3 (xs : List (List Int)) (i : Int) : (List Int) := xs.getD i.toNat ([] : List Int)
end Go.Proofs.YtnjdkhnepmmfgaaDoor.PC1
namespace Go.Proofs.YtnjdkhnepmmfgaaDoor.PC1
open Go.RowKit Go.Proofs.YtnjdkhnepmmfgaaDoorW.PrintWords Go.Proofs.YtnjdkhnepmmfgaaDoorW.PrintLast Go.Proofs.YtnjdkhnepmmfgaaDoorW.PrintMore PB1
attribute [local go_sem] max2_int min2_int max_two min_two max_three min_three max_four min_four   -- for this text's walks alone
set_option linter.unusedVariables false
set_option linter.unusedSimpArgs false
/-! ### impl_machine_far: function 85 -/
mutual
def impl_machine_far.l0 : Nat → List Int → List Bool → Int → Int → Int → Int → List Bool → List (List Int) → Option (List Int)
 | 0, _, _, _, _, _, _, _, _ => none
 | k + 1, x3, x16, x17, x18, x102000, x102001, x102002, x102003 => if x18 < x17 then (if 0 ≤ x18 then (if x18 < (x16.length : Int) then (if rdOf false x16 x18 = true then (impl_machine_far.l0 k x3 x16 x17 (wrap64 (x18 + 1)) x102000 x102001 x102002 x102003) else (if x18 < (x3.length : Int) then (impl_machine_far.l0 k (x3.set (x18 : Int).toNat (-1)) x16 x17 (wrap64 (x18 + 1)) x102000 x102001 x102002 x102003) else (none))) else (none)) else (none)) else (impl_machine_far.l1 k x3 1 x102000 x102001 x102002 x102003)
def impl_machine_far.l1 : Nat → List Int → Int → Int → Int → List Bool → List (List Int) → Option (List Int)
 | 0, _, _, _, _, _, _ => none
 | k + 1, x3, x6, x102000, x102001, x102002, x102003 => if x6 ≤ (x3.length : Int) then (impl_machine_far.l2 k x3 x6 x102003 (x102003.length : Int) 0 x102000 x102001 x102002 x102003) else (some x3)
def impl_machine_far.l2 : Nat → List Int → Int → List (List Int) → Int → Int → Int → Int → List Bool → List (List Int) → Option (List Int)
 | 0, _, _, _, _, _, _, _, _, _ => none
 | k + 1, x3, x6, x36, x37, x38, x102000, x102001, x102002, x102003 => if x38 < x37 then (if 0 ≤ x38 then (if x38 < (x36.length : Int) then (if x38 < (x3.length : Int) then (if (rd x3 x38) ≥ 0 then (impl_machine_far.l2 k x3 x6 x36 x37 (wrap64 (x38 + 1)) x102000 x102001 x102002 x102003) else (impl_machine_far.l3 k x3 x6 x38 x36 x37 x38 (rd_L1 x36 x38) ((rd_L1 x36 x38).length : Int) 0 x102000 x102001 x102002 x102003)) else (none)) else (none)) else (none)) else (impl_machine_far.l1 k x3 (wrap64 (x6 + 1)) x102000 x102001 x102002 x102003)
def impl_machine_far.l3 : Nat → List Int → Int → Int → List (List Int) → Int → Int → List Int → Int → Int → Int → Int → List Bool → List (List Int) → Option (List Int)
 | 0, _, _, _, _, _, _, _, _, _, _, _, _, _ => none
 | k + 1, x3, x6, x7, x36, x37, x38, x48, x49, x50, x102000, x102001, x102002, x102003 => if x50 < x49 then (if 0 ≤ x50 then (if x50 < (x48.length : Int) then (if 0 ≤ (rd x48 x50) then (if (rd x48 x50) < (x3.length : Int) then (if (rd x3 (rd x48 x50)) = (wrap64 (x6 - 1)) then (if 0 ≤ x7 then (if x7 < (x3.length : Int) then (impl_machine_far.l2 k (x3.set (x7 : Int).toNat x6) x6 x36 x37 (wrap64 (x38 + 1)) x102000 x102001 x102002 x102003) else (none)) else (none)) else (impl_machine_far.l3 k x3 x6 x7 x36 x37 x38 x48 x49 (wrap64 (x50 + 1)) x102000 x102001 x102002 x102003)) else (none)) else (none)) else (none)) else (none)) else (impl_machine_far.l2 k x3 x6 x36 x37 (wrap64 (x38 + 1)) x102000 x102001 x102002 x102003)
end
def impl_machine_far.f (k : Nat) (a0_0 : Int) (a0_1 : Int) (l0_2 : List Bool) (l0_3 : List (List Int)) : Option (List Int) := if 0 ≤ (l0_2.length : Int) then (if ((l0_2.length : Int) : Int).toNat ≤ 35184372088832 then (impl_machine_far.l0 k (List.replicate ((l0_2.length : Int) : Int).toNat 0) l0_2 (l0_2.length : Int) 0 a0_0 a0_1 l0_2 l0_3) else (none)) else (none)
/-! ### impl_columnOf: function 86 -/
def impl_columnOf.l0 : Nat → List Int → Int → Int → Option (Int)
 | 0, _, _, _ => none
 | k + 1, x0, x3, x4 => if x4 ≥ 0 then (if 0 ≤ x4 then (if x4 < (x0.length : Int) then (impl_columnOf.l0 k x0 (wrap64 ((wrap64 (3 * x3)) + (rd x0 x4))) (wrap64 (x4 - 1))) else (none)) else (none)) else (some x3)
def impl_columnOf.f (k : Nat) (l0 : List Int) : Option (Int) := impl_columnOf.l0 k l0 0 (wrap64 ((l0.length : Int) - 1))
set_option maxHeartbeats 8000000 in
set_option maxRecDepth 100000 in
theorem impl_columnOf.calls (k : Nat) (A0 : Option Addr) (c0 : Nat) (l0 : List Int) (r : Int) (w : World) (hr0 : Kd.C (Kd.int .i64) w A0 l0.length l0) (hc0 : l0.length ≤ c0) (h : impl_columnOf.f k l0 = some r) :
  Calls Tryd.prog 86 #[.slice A0 l0.length c0] w fun e w' => e = .returned (.int .i64 r) ∧ Drawn0 w w' := by
 have HR0 := Aside0.mk hr0
 have HC0 := Aside0.mk hc0
 clear hr0 hc0
 have H : (impl_columnOf.l0 k l0 0 (wrap64 ((l0.length : Int) - 1))) = some r := h
 clear h
 have H' := Aside0.mk H
 clear H
 go_enter Tryd.func86, Tryd.ntmps86
 go_wp2
 go_loopg [3, 4] k (fun kq v3 v4 w' => ∃ (x3_1 : Int) (x4_1 : Int), v3 = .int .i64 x3_1 ∧ v4 = .int .i64 x4_1 ∧ Aside0 (impl_columnOf.l0 kq l0 x3_1 x4_1 = some r) ∧ Aside0 (kq ≤ k) ∧ Drawn0 w w')
 case atStart => exact ⟨(0), (wrap64 ((l0.length : Int) - 1)), (by first | rfl | (simp; done) | (simp [*]; done) | (simp [wrap64]; done)), (by first | rfl | (simp; done) | (simp [*]; done) | (simp [wrap64]; done)), H', ⟨Nat.le_refl _⟩, by repeat (first | exact Drawn0.refl _ | apply Drawn0.step)⟩
 case round =>
  clear H'
  obtain ⟨x3_1, x4_1, rfl, rfl, HA, HK1, ⟨m1, rfl⟩⟩ := hrel
  cases gk with
  | zero => exact absurd HA.out (by simp [impl_columnOf.l0])
  | succ k1 =>
   have H := HA.out
   clear HA
   simp only [impl_columnOf.l0] at H
   by_cases c2 : x4_1 ≥ 0
   ·rw [if_pos c2] at H
    have c2b0 : decide (0 ≤ x4_1) = true := decide_eq_true c2
    clear c2
    by_cases c3 : 0 ≤ x4_1
    ·rw [if_pos c3] at H
     have c3b0 : decide (0 ≤ x4_1) = true := decide_eq_true c3
     clear c3
     by_cases c4 : x4_1 < (l0.length : Int)
     ·rw [if_pos c4] at H
      have c4b0 : decide (x4_1 < (l0.length : Int)) = true := decide_eq_true c4
      clear c4
      have H' := Aside0.mk H
      clear H
      have p112 : 0 ≤ (x4_1 : Int) := of_decide_eq_true (by first | (with_reducible assumption) | assumption)
      have q112 : x4_1 < (l0.length : Int) := of_decide_eq_true (by first | (with_reducible assumption) | assumption)
      obtain ⟨ad112, e112, hx112_0⟩ := Kd.at_int HR0.out x4_1 p112 q112
      cases e112
      replace p112 := eq_true p112
      replace q112 := eq_true q112
      go_wp2
      go_roundg k1
      case measure => have := HK1.out; omega
      case rel => exact ⟨(wrap64 ((wrap64 (3 * x3_1)) + (rd l0 x4_1))), (wrap64 (x4_1 - 1)), (by first | rfl | (simp; done) | (simp [*]; done) | (simp [wrap64]; done)), (by first | rfl | (simp; done) | (simp [*]; done) | (simp [wrap64]; done)), H', ⟨by have := HK1.out; omega⟩, by repeat (first | exact Drawn0.refl _ | apply Drawn0.step)⟩
     ·rw [if_neg c4] at H
      exact absurd H (by simp)
    ·rw [if_neg c3] at H
     exact absurd H (by simp)
   ·rw [if_neg c2] at H
    have c2b0 : decide (0 ≤ x4_1) = false := decide_eq_false c2
    clear c2
    obtain rfl := Option.some.inj H
    simp only [Option.some.injEq, Prod.mk.injEq] at H
    obtain ⟨rfl⟩ := H
    go_wp2
    go_ret
    exact ⟨by first | rfl | (simp; done) | (simp [*]; done) | (simp [wrap64]; done), by repeat (first | exact Drawn0.refl _ | apply Drawn0.step)⟩
end Go.Proofs.YtnjdkhnepmmfgaaDoor.PC1
namespace Go.Proofs.YtnjdkhnepmmfgaaDoor.PC1
open Go.RowKit Go.Proofs.YtnjdkhnepmmfgaaDoorW.PrintWords Go.Proofs.YtnjdkhnepmmfgaaDoorW.PrintLast Go.Proofs.YtnjdkhnepmmfgaaDoorW.PrintMore PB1
attribute [local go_sem] max2_int min2_int max_two min_two max_three min_three max_four min_four   -- for this text's walks alone
set_option linter.unusedVariables false
set_option linter.unusedSimpArgs false
/-! ### spec_l07Live: function 81 -/
mutual
def spec_l07Live.l0 : Nat → List Bool → Bool → Int → Int → List Bool → List (List Int) → Option (List Bool)
 | 0, _, _, _, _, _, _ => none
 | k + 1, x3, x4, x81000, x81001, x81002, x81003 => if x4 = true then (spec_l07Live.l1 k x3 false 0 x81000 x81001 x81002 x81003) else (some x3)
def spec_l07Live.l1 : Nat → List Bool → Bool → Int → Int → Int → List Bool → List (List Int) → Option (List Bool)
 | 0, _, _, _, _, _, _, _ => none
 | k + 1, x3, x4, x5, x81000, x81001, x81002, x81003 => if x5 < (x81003.length : Int) then (spec_l07Live.l2 k x3 x4 x5 0 x81000 x81001 x81002 x81003) else (spec_l07Live.l0 k x3 x4 x81000 x81001 x81002 x81003)
def spec_l07Live.l2 : Nat → List Bool → Bool → Int → Int → Int → Int → List Bool → List (List Int) → Option (List Bool)
 | 0, _, _, _, _, _, _, _, _ => none
 | k + 1, x3, x4, x5, x6, x81000, x81001, x81002, x81003 => if 0 ≤ x5 then (if x5 < (x81003.length : Int) then (if x6 < ((rd_L3 x81003 x5).length : Int) then (if 0 ≤ x6 then (if 0 ≤ (rd (rd_L3 x81003 x5) x6) then (if (rd (rd_L3 x81003 x5) x6) < (x3.length : Int) then (if rdOf false x3 (rd (rd_L3 x81003 x5) x6) = true then (if x5 < (x3.length : Int) then (if rdOf false x3 x5 = true then (spec_l07Live.l2 k x3 x4 x5 (wrap64 (x6 + 1)) x81000 x81001 x81002 x81003) else (spec_l07Live.l2 k (x3.set (x5 : Int).toNat true) true x5 (wrap64 (x6 + 1)) x81000 x81001 x81002 x81003)) else (none)) else (spec_l07Live.l2 k x3 x4 x5 (wrap64 (x6 + 1)) x81000 x81001 x81002 x81003)) else (none)) else (none)) else (none)) else (spec_l07Live.l1 k x3 x4 (wrap64 (x5 + 1)) x81000 x81001 x81002 x81003)) else (none)) else (none)
end
def spec_l07Live.f (k : Nat) (a0_0 : Int) (a0_1 : Int) (l0_2 : List Bool) (l0_3 : List (List Int)) : Option (List Bool) := (some (([] : List Bool) : List Bool)).bind fun y113 => (if y113.length + l0_2.length < 140737488355328 then (spec_l07Live.l0 k (y113 ++ l0_2) true a0_0 a0_1 l0_2 l0_3) else (none))
end Go.Proofs.YtnjdkhnepmmfgaaDoor.PC1
namespace Go.Proofs.YtnjdkhnepmmfgaaDoor.PC1
open Go.RowKit Go.Proofs.YtnjdkhnepmmfgaaDoorW.PrintWords Go.Proofs.YtnjdkhnepmmfgaaDoorW.PrintLast Go.Proofs.YtnjdkhnepmmfgaaDoorW.PrintMore PB1
attribute [local go_sem] max2_int min2_int max_two min_two max_three min_three max_four min_four   -- for this text's walks alone
set_option linter.unusedVariables false
set_option linter.unusedSimpArgs false
end Go.Proofs.YtnjdkhnepmmfgaaDoor.PC1
namespace Go.Proofs.YtnjdkhnepmmfgaaDoor.Lv
set_option linter.unusedVariables false
set_option linter.unusedSimpArgs false
open Go.RowKit Go.Proofs.YtnjdkhnepmmfgaaDoorW.PrintWords Go.Proofs.YtnjdkhnepmmfgaaDoorW.PrintLast Go.Proofs.YtnjdkhnepmmfgaaDoorW.PrintMore Tdy Mg Tf Go.Proofs.YtnjdkhnepmmfgaaDoor.Pure PB1 PC1
section
variable (rows : List (List Nat)) (accs : List Bool)
/-- An accepting state is k columns away, or fewer. -/
def liveK : Nat → Nat → Bool
 | 0, q => accs.getD q false
 | k + 1, q => liveK k q || (rows.getD q []).any (liveK k)
def live (q : Nat) : Bool := liveK rows accs rows.length q
end
section
variable {rows : List (List Nat)} {accs : List Bool} {wd : Nat}
/-! ### far -/
/-! ### l07Live -/
def nT (L : List Bool) : Nat := (L.filter id).length
section
variable {rows : List (List Nat)} {accs : List Bool} {wd : Nat}
end
end
end Go.Proofs.YtnjdkhnepmmfgaaDoor.Lv
namespace Go.Proofs.YtnjdkhnepmmfgaaDoor.Sbf
set_option linter.unusedVariables false
set_option linter.unusedSimpArgs false
open Go.RowKit Go.Proofs.YtnjdkhnepmmfgaaDoorW.PrintWords Go.Proofs.YtnjdkhnepmmfgaaDoorW.PrintLast Go.Proofs.YtnjdkhnepmmfgaaDoorW.PrintMore Tdy Mg Tw Tid Lv Sb PC1
section
variable {rows : List (List Nat)} {accs : List Bool}
end
/-- The scribe that is made: marks, numbers, letters, whether there is one. -/
def scribeF (rows : List (List Nat)) (accs : List Bool) (st : Nat) : List Bool × List (List Int) × List (List ByteArray) × Bool :=
 if live rows accs st = false then ([false], [[-1, -1]], [[⟨#[]⟩, ⟨#[]⟩]], true) else outcome accs ((scr (live rows accs) rows (rows.length + 1) 0 [st] [] []).getD none)
/-- What is right enough. -/
def okS (a1 : Int) (l2 : List Bool) (l3 : List (List Int)) : Prop := (0 ≤ a1 ∧ a1 < (l3.length : Int)) ∧ l2.length = l3.length ∧ l3.length ≤ 1000000 ∧ ∀ r ∈ l3, r.length = 8 ∧ ∀ x ∈ r, 0 ≤ x ∧ x < (l3.length : Int)
instance (a1 : Int) (l2 : List Bool) (l3 : List (List Int)) : Decidable (okS a1 l2 l3) := by unfold okS; infer_instance
def scrF (a1 : Int) (l2 : List Bool) (l3 : List (List Int)) : Option (List Bool × List (List Int) × List (List ByteArray) × Bool) := if okS a1 l2 l3 then some (scribeF (l3.map nats) l2 a1.toNat) else none
def impl_machine_scribe.f (a0_0 a0_1 : Int) (l0_2 : List Bool) (l0_3 : List (List Int)) : Option (List Bool × List (List Int) × List (List ByteArray) × Bool) := scrF a0_1 l0_2 l0_3
end Go.Proofs.YtnjdkhnepmmfgaaDoor.Sbf
namespace Go.Proofs.YtnjdkhnepmmfgaaDoor.Sbf
set_option linter.unusedVariables false
set_option linter.unusedSimpArgs false
open Go.RowKit Go.Proofs.YtnjdkhnepmmfgaaDoorW.PrintWords Go.Proofs.YtnjdkhnepmmfgaaDoorW.PrintLast Go.Proofs.YtnjdkhnepmmfgaaDoorW.PrintMore Tdy Mg Tw Tid Lv Sb PB1 PC1
def spec_l07Scribe.f (a0_0 a0_1 : Int) (l0_2 : List Bool) (l0_3 : List (List Int)) : Option (List Bool × List (List Int) × List (List ByteArray) × Bool) := scrF a0_1 l0_2 l0_3
end Go.Proofs.YtnjdkhnepmmfgaaDoor.Sbf
namespace Go.Proofs.YtnjdkhnepmmfgaaDoor.Il
set_option linter.unusedVariables false
set_option linter.unusedSimpArgs false
open Go.RowKit Go.Proofs.YtnjdkhnepmmfgaaDoorW.PrintWords Go.Proofs.YtnjdkhnepmmfgaaDoorW.PrintLast Go.Proofs.YtnjdkhnepmmfgaaDoorW.PrintMore Kp Tdy Mg Tid Tf Ti Sb Sbf PT3 PureRel Lr
section
variable {t s : Int} {a : List Bool} {b : List (List Int)}
/-- A valid relation is right enough to be made tidy. -/
theorem ok_tidy (h : okR t s a b = true) : okM t s a b := by
 unfold okR okF at h
 simp only [Bool.and_eq_true, decide_eq_true_eq, List.all_eq_true] at h
 obtain ⟨h150, ⟨⟨⟨ht, hl⟩, hs⟩, hb⟩, hr⟩ := h
 unfold okX at hs
 simp only [decide_eq_true_eq] at hs
 refine ⟨ht, by omega, by omega, by omega, fun r hm => ?_⟩
 have h1 := hr r hm
 unfold okW okX at h1
 simp only [Bool.and_eq_true, decide_eq_true_eq, List.all_eq_true] at h1
 exact ⟨h1.1, fun x hx => by have := h1.2 x hx; omega⟩
theorem tidF_is (h : okR t s a b = true) : tidF t s a b = some (t, 0, (tidM t s a b).1, (tidM t s a b).2.map ints) := by
 unfold tidF
 rw [if_pos (ok_tidy h)]
theorem nats_of (l : List (List Nat)) : (l.map ints).map nats = l := by
 rw [List.map_map]
 conv => rhs; rw [← List.map_id l]
 refine List.map_congr_left (fun r _ => ?_)
 have : (r.map Int.ofNat).map Int.toNat = r := by
  rw [List.map_map]
  conv => rhs; rw [← List.map_id r]
  exact List.map_congr_left (fun x _ => by simp)
 exact this
end
end Go.Proofs.YtnjdkhnepmmfgaaDoor.Il
namespace Go.Proofs.YtnjdkhnepmmfgaaDoor.Jo
set_option linter.unusedVariables false
set_option linter.unusedSimpArgs false
open Go Go.RowKit Go.Proofs.YtnjdkhnepmmfgaaDoorW.PrintWords Go.Proofs.YtnjdkhnepmmfgaaDoorW.PrintLast Go.Proofs.YtnjdkhnepmmfgaaDoorW.PrintMore Kp Mg Mk Tdy Tf Tid Ti Tr Go.Proofs.YtnjdkhnepmmfgaaDoor.Op Lr Gv Cod Pts
/-- A right machine is made tidy. -/
theorem tidF_mach {t s : Nat} (ht : t < 4) (h0 : 0 < t) {accs : List Bool} {rows : List (List Nat)} (hcl : Closed (wdOf t) rows accs) (hs : s < rows.length) (hn : rows.length ≤ 100000) : tidF (t : Int) (s : Int) accs (rows.map ints) = some ((t : Int), 0, (tidL (wdOf t) rows accs s (padT t)).1, (tidL (wdOf t) rows accs s (padT t)).2.map ints) := by
 have hok : okM (t : Int) (s : Int) accs (rows.map ints) := by
  refine ⟨⟨by omega, by omega⟩, ⟨by omega, by rw [List.length_map]; omega⟩, by rw [List.length_map]; exact hcl.len.symm, by rw [List.length_map]; exact hn, fun r hr => ?_⟩
  obtain ⟨r', h1, rfl⟩ := List.mem_map.1 hr
  refine ⟨by rw [ints_length, hcl.wide r' h1, Int.toNat_natCast], fun y hy => ?_⟩
  have hy' : y ∈ r'.map Int.ofNat := hy
  obtain ⟨z, hz, rfl⟩ := List.mem_map.1 hy'
  have := hcl.lt r' h1 z hz
  rw [List.length_map]
  exact ⟨by simp, Int.ofNat_lt.2 this⟩
 unfold tidF
 rw [if_pos hok]
 unfold tidM
 rw [Int.toNat_natCast, Int.toNat_natCast, Il.nats_of]
/-- What is known of a valid relation's tidy machine. -/
theorem tidM_good {t : Nat} {s : Int} {a : List Bool} {b : List (List Int)} (h : okR (t : Int) s a b = true) : t < 4 ∧ 0 < t ∧ Closed (wdOf t) (tidM t s a b).2 (tidM t s a b).1 ∧ 0 < (tidM t s a b).2.length ∧ (tidM t s a b).2.length ≤ 1201 ∧ tidF t s a b = some ((t : Int), 0, (tidM t s a b).1, (tidM t s a b).2.map ints) := by
 have hk := okM_ok (Il.ok_tidy h)
 have e : (t : Int).toNat = t := Int.toNat_natCast t
 have h2 := hk.t2
 have h1 := hk.t1
 rw [e] at h1 h2
 have hg := tid_good (s := s.toNat) (accs := a) (rows := b.map nats) (t := (t : Int).toNat) hk.t2 hk.s1 hk.cl
 have hl : b.length ≤ 150 := by
  have := hk.cl.len
  rw [List.length_map] at this
  unfold okR at h
  simp only [Bool.and_eq_true, decide_eq_true_eq] at h
  omega
 refine ⟨h2, h1, ?_, hg.2.1, ?_, Il.tidF_is h⟩
 ·have := hg.1
  rw [e] at this
  unfold tidM
  rw [e]
  exact this
 ·have := hg.2.2
  rw [List.length_map] at this
  show (tidL (wdOf (t : Int).toNat) (b.map nats) a s.toNat (padT (t : Int).toNat)).2.length ≤ 1201
  omega
theorem two2_ok {t s : Int} {a : List Bool} {b : List (List Int)} {t' s' : Int} {a' : List Bool} {b' : List (List Int)} (h : two2 t s a b t' s' a' b' = 0) : okR t s a b = true ∧ okR t' s' a' b' = true ∧ t = t' := by
 unfold two2 at h
 split at h
 ·rename_i h1
  split at h
  ·rename_i h2
   exact ⟨h1.1, h1.2, h2⟩
  ·cases h
 ·cases h
/-- What comes of two relations that are put together. -/
def joinR (op : Bool → Bool → Bool) (t s : Int) (a : List Bool) (b : List (List Int)) (t' s' : Int) (a' : List Bool) (b' : List (List Int)) : RRes :=
 if two2 t s a b t' s' a' b' = 0 then (if (tidM t s a b).2.length * (tidM t' s' a' b').2.length ≤ 1000 then toldR t (tidL (wdOf t.toNat) (rowsD (tidM t s a b).2 (tidM t' s' a' b').2 (wdOf t.toNat)) (accsD op (tidM t s a b).1 (tidM t' s' a' b').1) 0 (padT t.toNat)).1 ((tidL (wdOf t.toNat) (rowsD (tidM t s a b).2 (tidM t' s' a' b').2 (wdOf t.toNat)) (accsD op (tidM t s a b).1 (tidM t' s' a' b').1) 0 (padT t.toNat)).2.map ints) else bad 3)
 else bad (two2 t s a b t' s' a' b')
set_option maxHeartbeats 4000000 in
theorem joinedBoth (gr gs : Nat) (t s : Int) (A2 : Option Addr) (c2 : Nat) (a : List Bool) (A3 : Option Addr) (c3 : Nat) (b : List (List Int)) (t' s' : Int) (B2 : Option Addr) (d2 : Nat) (a' : List Bool) (B3 : Option Addr) (d3 : Nat) (b' : List (List Int)) (w : World) (hP : Box w gr t s A2 a.length c2 A3 b.length c3) (hQ : Box w gs t' s' B2 a'.length d2 B3 b'.length d3) (hA : Arg w A2 c2 a A3 c3 b) (hB : Arg w B2 d2 a' B3 d3 b') (hS : Small a b) (hS' : Small a' b') (hc : two2 t s a b t' s' a' b' = 0) :
  Calls Tryd.prog 99 #[.pointer (some ⟨gr, 0, none⟩), .pointer (some ⟨gs, 0, none⟩), .int .i64 1] w (Gives (joinR (fun x y => x && y) t s a b t' s' a' b') w) := by
 unfold joinR
 rw [if_pos hc]
 obtain ⟨hok, hok', rfl⟩ := two2_ok hc
 clear hc
 obtain ⟨t, rfl⟩ : ∃ x : Nat, t = (x : Int) := ⟨t.toNat, by have := (Il.ok_tidy hok).1; omega⟩
 rw [Int.toNat_natCast]
 obtain ⟨ht4, ht0, hM', hM0, hMl, hfM⟩ := tidM_good hok
 obtain ⟨_, _, hN', hN0, hNl, hfN⟩ := tidM_good hok'
 clear hok hok'
 generalize tidM (t : Int) s a b = M at *
 generalize tidM (t : Int) s' a' b' = N at *
 obtain ⟨n1, hn1'⟩ : ∃ n, M.2.length = n := ⟨_, rfl⟩
 obtain ⟨n2, hn2'⟩ : ∃ n, N.2.length = n := ⟨_, rfl⟩
 have hl1 : Aside0 (M.1.length = n1) := ⟨by rw [← hM'.len]; exact hn1'⟩
 have hl2 : Aside0 (N.1.length = n2) := ⟨by rw [← hN'.len]; exact hn2'⟩
 have hm1 : Aside0 ((M.2.map ints).length = n1) := ⟨by rw [List.length_map]; exact hn1'⟩
 have hm2 : Aside0 ((N.2.map ints).length = n2) := ⟨by rw [List.length_map]; exact hn2'⟩
 rw [hn1', hn2']
 rw [hn1'] at hM0 hMl
 rw [hn2'] at hN0 hNl
 have hn1 := Aside0.mk hn1'
 have hn2 := Aside0.mk hn2'
 have hM := Aside0.mk hM'
 have hN := Aside0.mk hN'
 have h01 := Aside0.mk hM0
 have h02 := Aside0.mk hN0
 have hf1 : Aside0 (spec_l01Tidied.f (t : Int) s a b = some ((t : Int), 0, M.1, M.2.map ints)) := ⟨hfM⟩
 have hf2 : Aside0 (spec_l01Tidied.f (t : Int) s' a' b' = some ((t : Int), 0, N.1, N.2.map ints)) := ⟨hfN⟩
 have hwd : Aside0 (wdOf t ≤ 30) := ⟨by have := wd_le t ht4; omega⟩
 have hsz0 : n1 * n2 ≤ 1201 * 1201 := Nat.mul_le_mul hMl hNl
 have hsz : Aside0 (n1 * n2 ≤ 2000000) := ⟨by omega⟩
 obtain ⟨Pq, hPq⟩ : ∃ P, n1 * n2 = P := ⟨_, rfl⟩
 have hw1 : wrap64 ((n1 : Int) * (n2 : Int)) = (Pq : Int) := by
  have e9 : ((n1 * n2 : Nat) : Int) = (n1 : Int) * (n2 : Int) := by simp
  rw [← e9, hPq]
  unfold wrap64
  omega
 have bZ := blk_new w (.cells #[.int .i64 0, .int .i64 0, .slice none 0 0, .slice none 0 0] 27)
 have hb1 : Below w.heap.size w (w.alloc (.cells #[.int .i64 0, .int .i64 0, .slice none 0 0, .slice none 0 0] 27)) := below_alloc (Below.refl _ _) _
 have hP1 := blk_below hP hb1
 have hQ1 := blk_below hQ hb1
 have hw1q := Aside0.mk hw1
 clear hw1
 by_cases hlim : n1 * n2 ≤ 1000
 ·rw [if_pos hlim]
  have hfX0 : spec_l01Tidied.f (t : Int) 0 (accsD (fun x y => x && y) M.1 N.1) ((rowsD M.2 N.2 (wdOf t)).map ints) = _ := tidF_mach ht4 ht0 (rowsD_closed (fun x y => x && y) hM' hN') (by simp only [rowsD, List.length_map, List.length_range]; rw [hn1', hn2']; exact Nat.mul_pos hM0 hN0) (by simp only [rowsD, List.length_map, List.length_range]; rw [hn1', hn2']; omega)
  obtain ⟨TT, hTT⟩ : ∃ TT, tidL (wdOf t) (rowsD M.2 N.2 (wdOf t)) (accsD (fun x y => x && y) M.1 N.1) 0 (padT t) = TT := ⟨_, rfl⟩
  rw [hTT] at hfX0 ⊢
  have hfX := Aside0.mk hfX0
  obtain ⟨RR, hRR⟩ : ∃ RR, toldR (t : Int) TT.1 (TT.2.map ints) = RR := ⟨_, rfl⟩
  obtain ⟨m4, hm4⟩ : ∃ n, Aside0 ((accsD (fun x y => x && y) M.1 N.1).length = n) := ⟨_, ⟨rfl⟩⟩
  obtain ⟨m5, hm5⟩ : ∃ n, Aside0 (((rowsD M.2 N.2 (wdOf t)).map ints).length = n) := ⟨_, ⟨rfl⟩⟩
  rw [hRR]
  have hRRq := Aside0.mk hRR
  have z1 : ((1000 : Int) < (Pq : Int)) = False := eq_false (by omega)
  clear hfX0 hTT hRR hlim hM' hN' hfM hfN hsz0 hPq hM0 hN0 hMl hNl hn1' hn2'
  have hw1 := hw1q.out
  go_enter Tryd.func99, Tryd.ntmps99
  go_wp2_with (first
   | (go_at_call 39; (with_reducible refine (spec_l01Tidied.calls gr t s A2 c2 a A3 c3 b _ _ _ _ _ hP1 (hA.below hb1).r2 hA.l2 (hA.below hb1).r3 hA.l3 hf1.out).mono ?_); go_loud (
     rintro e w2 ⟨v2, v3, rfl, q2, q3, hb2⟩
     obtain ⟨D2, x2, e2⟩ := Kd.R_slice q2
     rw [hl1.out] at e2
     subst e2
     obtain ⟨D3, x3, e3⟩ := Kd.S_slice q3
     rw [hm1.out] at e3
     subst e3
     have hb2a : Below w2.heap.size w2 (w2.alloc (.cells #[.int .i64 (t : Int), .int .i64 0, .slice D2 n1 x2, .slice D3 n1 x3] 27)) := below_alloc (Below.refl _ _) _
     have hP2 : Box (w2.alloc (.cells #[.int .i64 (t : Int), .int .i64 0, .slice D2 n1 x2, .slice D3 n1 x3] 27)) w2.heap.size (t : Int) 0 D2 n1 x2 D3 n1 x3 := blk_new _ _
     have r2 := (Kd.R_reads' (Kd.R_below q2 hb2a)).2.2
     have r3 := (Kd.S_reads' (Kd.S_below q3 hb2a)).2.2
     have hB2 := below_step (below_step hb1 hb2) hb2a
     have hQ2 := blk_below (blk_below hQ1 hb2) hb2a
     clear q2 q3))
   | (go_at_call 39; (with_reducible refine (spec_l01Tidied.calls gs t s' B2 d2 a' B3 d3 b' _ _ _ _ _ hQ2 (hB.below hB2).r2 hB.l2 (hB.below hB2).r3 hB.l3 hf2.out).mono ?_); go_loud (
     rintro e w3 ⟨v2, v3, rfl, q2, q3, hb3⟩
     obtain ⟨E2, y2, e2⟩ := Kd.R_slice q2
     rw [hl2.out] at e2
     subst e2
     obtain ⟨E3, y3, e3⟩ := Kd.S_slice q3
     rw [hm2.out] at e3
     subst e3
     have hb3a : Below w3.heap.size w3 (w3.alloc (.cells #[.int .i64 (t : Int), .int .i64 0, .slice E2 n2 y2, .slice E3 n2 y3] 27)) := below_alloc (Below.refl _ _) _
     have hQ3 : Box (w3.alloc (.cells #[.int .i64 (t : Int), .int .i64 0, .slice E2 n2 y2, .slice E3 n2 y3] 27)) w3.heap.size (t : Int) 0 E2 n2 y2 E3 n2 y3 := blk_new _ _
     have hP3 := blk_below (blk_below hP2 hb3) hb3a
     have p2 := (Kd.R_reads' (Kd.R_below q2 hb3a)).2.2
     have p3 := (Kd.S_reads' (Kd.S_below q3 hb3a)).2.2
     have hB3 := below_step (below_step hB2 hb3) hb3a
     have u2 : (w3.alloc (.cells #[.int .i64 (t : Int), .int .i64 0, .slice E2 n2 y2, .slice E3 n2 y3] 27)).cell? ⟨w2.heap.size, 2, none⟩ = some (.slice D2 n1 x2) := (blk_cell hP3 2).trans rfl
     have r2' := Kd.C_below (Kd.C_below r2 hb3) hb3a
     have r3' := Kd.C_below (Kd.C_below r3 hb3) hb3a
     clear q2 q3 r2 r3
     ))
   | (go_at_call 112; (with_reducible refine (pairsBoth w2.heap.size w3.heap.size t n1 n2 (wdOf t) M.1 M.2 N.1 N.2 hM.out hN.out hn1.out hn2.out hwd.out hsz.out h01.out h02.out D2 x2 D3 x3 E2 y2 E3 y3 _ hP3 hQ3 (by have := r2'; rw [hl1.out] at this; exact this) (by have := r3'; rw [hm1.out] at this; exact this) (by have := p2; rw [hl2.out] at this; exact this) (by have := p3; rw [hm2.out] at this; exact this)).mono ?_); go_loud (
     rintro e w4 ⟨vA, vN, rfl, q2, q3, hb4⟩
     obtain ⟨X2, z2, e2, hz2, hC2⟩ := Kd.R_reads q2
     obtain ⟨X3, z3, e3, hz3, hC3⟩ := Kd.R_reads q3
     rw [hm4.out] at e2
     rw [hm5.out] at e3
     subst e2 e3
     have hb4a : Below w4.heap.size w4 (w4.alloc (.cells #[.int .i64 (t : Int), .int .i64 0, .slice X2 m4 z2, .slice X3 m5 z3] 27)) := below_alloc (Below.refl _ _) _
     have hX4 := blk_new w4 (.cells #[.int .i64 (t : Int), .int .i64 0, .slice X2 m4 z2, .slice X3 m5 z3] 27)
     have hB4 := below_step (below_step hB3 hb4) hb4a
     have hC2a := Kd.C_below hC2 hb4a
     have hC3a := Kd.C_below hC3 hb4a
     clear q2 q3 hC2 hC3))
   | (go_at_call 39; go_loud (
     with_reducible refine (spec_l01Tidied.calls w4.heap.size t 0 X2 z2 _ X3 z3 _ _ _ _ _ _ (by rw [hm4.out, hm5.out]; exact hX4) hC2a hz2 hC3a hz3 hfX.out).mono ?_
     rintro e w5 ⟨v2, v3, rfl, q2, q3, hb5⟩
     obtain ⟨G2, g2, e2⟩ := Kd.R_slice q2
     subst e2
     obtain ⟨G3, g3, e3⟩ := Kd.S_slice q3
     subst e3
     have hB5 := below_step hB4 hb5
     have hRel : Rel w5 w.heap.size (fun _ => True) G2 g2 TT.1 G3 g3 (TT.2.map ints) := ⟨Kd.R_lower q2 (Below.size hB4), Kd.S_lower q3 (Below.size hB4)⟩))
   | (go_at_call 55; go_loud (
     have q := told (t : Int) TT.1 (TT.2.map ints) w5 G2 g2 G3 g3 w.heap.size (Below.size hB5) w rfl hB5 hRel
     have q2 := q
     rw [hRRq.out] at q2
     simp only [List.length_map] at q2
     with_reducible refine q2.mono ?_
     rintro e w6 ⟨⟨F2, k2, F3, k3, rfl, hRy, hBy⟩, hb6⟩
     have b0 : ZBox w6 w.heap.size := blk_below (blk_below (blk_below (blk_below (blk_below (blk_below (blk_below (blk_below bZ hb2) hb2a) hb3) hb3a) hb4) hb4a) hb5) hb6
     obtain ⟨e0, e1, e2, e3⟩ := box b0
     obtain ⟨f0, f1, f2, f3⟩ := box_open b0)))
  refine bodyPost_ret (results_ct rfl _ _ (w.heap.size) 27 #[.int .i64 RR.t, .int .i64 RR.s, .slice F2 RR.a.length k2, .slice F3 RR.b.length k3] (0, 0) _ rfl (put_box b0) Tryd.underlying27 rfl (by kernel_rfl)) rfl ?_
  exact gives_put hRy b0 hBy (Nat.le_refl _) (Nat.le_refl _)
 ·rw [if_neg hlim]
  have z1 : ((1000 : Int) < (Pq : Int)) = True := eq_true (by omega)
  clear hlim hM' hN' hfM hfN hsz0 hPq hM0 hN0 hMl hNl hn1' hn2'
  have hw1 := hw1q.out
  go_enter Tryd.func99, Tryd.ntmps99
  go_wp2_with (first
   | (go_at_call 39; (with_reducible refine (spec_l01Tidied.calls gr t s A2 c2 a A3 c3 b _ _ _ _ _ hP1 (hA.below hb1).r2 hA.l2 (hA.below hb1).r3 hA.l3 hf1.out).mono ?_); go_loud (
     rintro e w2 ⟨v2, v3, rfl, q2, q3, hb2⟩
     obtain ⟨D2, x2, e2⟩ := Kd.R_slice q2
     rw [hl1.out] at e2
     subst e2
     obtain ⟨D3, x3, e3⟩ := Kd.S_slice q3
     rw [hm1.out] at e3
     subst e3
     have hb2a : Below w2.heap.size w2 (w2.alloc (.cells #[.int .i64 (t : Int), .int .i64 0, .slice D2 n1 x2, .slice D3 n1 x3] 27)) := below_alloc (Below.refl _ _) _
     have hP2 : Box (w2.alloc (.cells #[.int .i64 (t : Int), .int .i64 0, .slice D2 n1 x2, .slice D3 n1 x3] 27)) w2.heap.size (t : Int) 0 D2 n1 x2 D3 n1 x3 := blk_new _ _
     have r2 := (Kd.R_reads' (Kd.R_below q2 hb2a)).2.2
     have r3 := (Kd.S_reads' (Kd.S_below q3 hb2a)).2.2
     have hB2 := below_step (below_step hb1 hb2) hb2a
     have hQ2 := blk_below (blk_below hQ1 hb2) hb2a
     clear q2 q3))
   | (go_at_call 39; (with_reducible refine (spec_l01Tidied.calls gs t s' B2 d2 a' B3 d3 b' _ _ _ _ _ hQ2 (hB.below hB2).r2 hB.l2 (hB.below hB2).r3 hB.l3 hf2.out).mono ?_); go_loud (
     rintro e w3 ⟨v2, v3, rfl, q2, q3, hb3⟩
     obtain ⟨E2, y2, e2⟩ := Kd.R_slice q2
     rw [hl2.out] at e2
     subst e2
     obtain ⟨E3, y3, e3⟩ := Kd.S_slice q3
     rw [hm2.out] at e3
     subst e3
     have hb3a : Below w3.heap.size w3 (w3.alloc (.cells #[.int .i64 (t : Int), .int .i64 0, .slice E2 n2 y2, .slice E3 n2 y3] 27)) := below_alloc (Below.refl _ _) _
     have hQ3 : Box (w3.alloc (.cells #[.int .i64 (t : Int), .int .i64 0, .slice E2 n2 y2, .slice E3 n2 y3] 27)) w3.heap.size (t : Int) 0 E2 n2 y2 E3 n2 y3 := blk_new _ _
     have hP3 := blk_below (blk_below hP2 hb3) hb3a
     have p2 := (Kd.R_reads' (Kd.R_below q2 hb3a)).2.2
     have p3 := (Kd.S_reads' (Kd.S_below q3 hb3a)).2.2
     have hB3 := below_step (below_step hB2 hb3) hb3a
     have u2 : (w3.alloc (.cells #[.int .i64 (t : Int), .int .i64 0, .slice E2 n2 y2, .slice E3 n2 y3] 27)).cell? ⟨w2.heap.size, 2, none⟩ = some (.slice D2 n1 x2) := (blk_cell hP3 2).trans rfl
     have r2' := Kd.C_below (Kd.C_below r2 hb3) hb3a
     have r3' := Kd.C_below (Kd.C_below r3 hb3) hb3a
     clear q2 q3 r2 r3
     have b0 : ZBox _ _ := blk_below (blk_below (blk_below (blk_below (blk_below bZ hb2) hb2a) hb3) hb3a) (Below.refl _ _)
     obtain ⟨e0, e1, e2, e3⟩ := box b0
     obtain ⟨f0, f1, f2, f3⟩ := box_open b0
     )))
  refine bodyPost_ret (results_ct rfl _ _ (w.heap.size) 27 #[.int .i64 0, .int .i64 0, .slice none 0 0, .slice none 0 0] (0, 0) _ rfl (put_box b0) Tryd.underlying27 rfl (by kernel_rfl)) rfl ?_
  exact bad_put b0 hB3 (Nat.le_refl _)
set_option maxHeartbeats 4000000 in
theorem askedBoth (gr gs : Nat) (t s : Int) (A2 : Option Addr) (c2 : Nat) (a : List Bool) (A3 : Option Addr) (c3 : Nat) (b : List (List Int)) (t' s' : Int) (B2 : Option Addr) (d2 : Nat) (a' : List Bool) (B3 : Option Addr) (d3 : Nat) (b' : List (List Int)) (w : World) (hP : Box w gr t s A2 a.length c2 A3 b.length c3) (hQ : Box w gs t' s' B2 a'.length d2 B3 b'.length d3) (hA : Arg w A2 c2 a A3 c3 b) (hB : Arg w B2 d2 a' B3 d3 b') (hS : Small a b) (hS' : Small a' b') :
  Calls Tryd.prog 68 #[.pointer (some ⟨gr, 0, none⟩), .pointer (some ⟨gs, 0, none⟩), .int .i64 1] w (Gives (joinR (fun x y => x && y) t s a b t' s' a' b') w) := by
 have bZ := blk_new w (.cells #[.int .i64 0, .int .i64 0, .slice none 0 0, .slice none 0 0] 27)
 have hb1 : Below w.heap.size w (w.alloc (.cells #[.int .i64 0, .int .i64 0, .slice none 0 0, .slice none 0 0] 27)) := below_alloc (Below.refl _ _) _
 have htwo := Aside0.mk (two_s gr gs t s A2 c2 a A3 c3 b t' s' B2 d2 a' B3 d3 b' _ (blk_below hP hb1) (blk_below hQ hb1) (hA.below hb1) (hB.below hb1) hS hS')
 by_cases h0 : two2 t s a b t' s' a' b' = 0
 ·have h0q := Aside0.mk h0
  have hj : Aside0 (∀ W, Below w.heap.size w W → Calls Tryd.prog 99 #[.pointer (some ⟨gr, 0, none⟩), .pointer (some ⟨gs, 0, none⟩), .int .i64 1] W (Gives (joinR (fun x y => x && y) t s a b t' s' a' b') W)) := ⟨fun W hb => joinedBoth gr gs t s A2 c2 a A3 c3 b t' s' B2 d2 a' B3 d3 b' W (blk_below hP hb) (blk_below hQ hb) (hA.below hb) (hB.below hb) hS hS' h0⟩
  obtain ⟨RR, hRR⟩ : ∃ RR, joinR (fun x y => x && y) t s a b t' s' a' b' = RR := ⟨_, rfl⟩
  rw [hRR] at hj ⊢
  clear h0 hRR
  go_enter Tryd.func68, Tryd.ntmps68
  go_wp2_with (first
   | (go_at_call 98; go_loud (
     with_reducible refine htwo.out.mono ?_
     rintro e w2 ⟨he, hb2⟩
     rw [h0q.out] at he
     subst he
     have hB2 := below_step hb1 hb2))
   | (go_at_call 99; go_loud (
     with_reducible refine (hj.out w2 hB2).mono ?_
     rintro e w3 ⟨F2, k2, F3, k3, rfl, hRy, hb3⟩
     have hBy := below_step hB2 hb3
     have b0 : ZBox w3 w.heap.size := blk_below (blk_below bZ hb2) hb3
     obtain ⟨e0, e1, e2, e3⟩ := box b0
     obtain ⟨f0, f1, f2, f3⟩ := box_open b0)))
  refine bodyPost_ret (results_ct rfl _ _ (w.heap.size) 27 #[.int .i64 RR.t, .int .i64 RR.s, .slice F2 RR.a.length k2, .slice F3 RR.b.length k3] (0, 0) _ rfl (put_box b0) Tryd.underlying27 rfl (by kernel_rfl)) rfl ?_
  exact gives_put hRy b0 hBy (Nat.le_refl _) (Below.size hB2)
 ·obtain ⟨C, hC⟩ : ∃ C, two2 t s a b t' s' a' b' = C := ⟨_, rfl⟩
  have e : joinR (fun x y => x && y) t s a b t' s' a' b' = bad C := by unfold joinR; rw [if_neg h0, hC]
  rw [e]
  rw [hC] at h0 htwo
  have x1 : (C == 0) = false := beq_eq_false_iff_ne.mpr h0
  have x2 : (C != 0) = true := bne_iff_ne.mpr h0
  have x3 : (C = 0) = False := eq_false h0
  clear e h0 hC
  go_enter Tryd.func68, Tryd.ntmps68
  go_wp2_with (go_at_call 98; go_loud (
     with_reducible refine htwo.out.mono ?_
     rintro e w2 ⟨rfl, hb2⟩
     have hB2 := below_step hb1 hb2
     have b0 : ZBox w2 w.heap.size := blk_below bZ hb2
     obtain ⟨e0, e1, e2, e3⟩ := box b0
     obtain ⟨f0, f1, f2, f3⟩ := box_open b0))
  refine bodyPost_ret (results_ct rfl _ _ (w.heap.size) 27 #[.int .i64 0, .int .i64 0, .slice none 0 0, .slice none 0 0] (0, 0) _ rfl (put_box b0) Tryd.underlying27 rfl (by kernel_rfl)) rfl ?_
  exact bad_put b0 hB2 (Nat.le_refl _)
set_option maxHeartbeats 4000000 in
theorem both_s (t s : Int) (A2 : Option Addr) (c2 : Nat) (a : List Bool) (A3 : Option Addr) (c3 : Nat) (b : List (List Int)) (t' s' : Int) (B2 : Option Addr) (d2 : Nat) (a' : List Bool) (B3 : Option Addr) (d3 : Nat) (b' : List (List Int)) (w : World) (hA : Arg w A2 c2 a A3 c3 b) (hB : Arg w B2 d2 a' B3 d3 b') (hS : Small a b) (hS' : Small a' b') :
  Calls Tryd.prog 26 #[.agg #[.int .i64 t, .int .i64 s, .slice A2 a.length c2, .slice A3 b.length c3], .agg #[.int .i64 t', .int .i64 s', .slice B2 a'.length d2, .slice B3 b'.length d3]] w (Gives (joinR (fun x y => x && y) t s a b t' s' a' b') w) := by
 have hb1 : Below w.heap.size w (((w.alloc (.cells #[.int .i64 t, .int .i64 s, .slice A2 a.length c2, .slice A3 b.length c3] 27)).alloc (.cells #[.int .i64 t', .int .i64 s', .slice B2 a'.length d2, .slice B3 b'.length d3] 27)).alloc (.cells #[.int .i64 0, .int .i64 0, .slice none 0 0, .slice none 0 0] 27)) := below_alloc (below_alloc (below_alloc (Below.refl _ _) _) _) _
 have hP : Box (((w.alloc (.cells #[.int .i64 t, .int .i64 s, .slice A2 a.length c2, .slice A3 b.length c3] 27)).alloc (.cells #[.int .i64 t', .int .i64 s', .slice B2 a'.length d2, .slice B3 b'.length d3] 27)).alloc (.cells #[.int .i64 0, .int .i64 0, .slice none 0 0, .slice none 0 0] 27)) w.heap.size t s A2 a.length c2 A3 b.length c3 := blk_alloc (blk_alloc (blk_new _ _) _) _
 have hQ : Box (((w.alloc (.cells #[.int .i64 t, .int .i64 s, .slice A2 a.length c2, .slice A3 b.length c3] 27)).alloc (.cells #[.int .i64 t', .int .i64 s', .slice B2 a'.length d2, .slice B3 b'.length d3] 27)).alloc (.cells #[.int .i64 0, .int .i64 0, .slice none 0 0, .slice none 0 0] 27)) (w.heap.size + 1) t' s' B2 a'.length d2 B3 b'.length d3 := blk_alloc (blk_at _ _ _ (by simp)) _
 have bZ : ZBox (((w.alloc (.cells #[.int .i64 t, .int .i64 s, .slice A2 a.length c2, .slice A3 b.length c3] 27)).alloc (.cells #[.int .i64 t', .int .i64 s', .slice B2 a'.length d2, .slice B3 b'.length d3] 27)).alloc (.cells #[.int .i64 0, .int .i64 0, .slice none 0 0, .slice none 0 0] 27)) (w.heap.size + 2) := blk_at _ _ _ (by simp)
 have hj := Aside0.mk (askedBoth w.heap.size (w.heap.size + 1) t s A2 c2 a A3 c3 b t' s' B2 d2 a' B3 d3 b' _ hP hQ (hA.below hb1) (hB.below hb1) hS hS')
 obtain ⟨RR, hRR⟩ : ∃ RR, joinR (fun x y => x && y) t s a b t' s' a' b' = RR := ⟨_, rfl⟩
 rw [hRR] at hj ⊢
 clear hRR
 go_enter Tryd.func26, Tryd.ntmps26
 go_wp2_with (go_at_call 68; go_loud (
     with_reducible refine hj.out.mono ?_
     rintro e w3 ⟨F2, k2, F3, k3, rfl, hRy, hb3⟩
     have hBy := below_step hb1 hb3
     have b0 : ZBox w3 (w.heap.size + 2) := blk_below bZ hb3
     obtain ⟨e0, e1, e2, e3⟩ := box b0
     obtain ⟨f0, f1, f2, f3⟩ := box_open b0))
 refine bodyPost_ret (results_ct rfl _ _ (w.heap.size + 2) 27 #[.int .i64 RR.t, .int .i64 RR.s, .slice F2 RR.a.length k2, .slice F3 RR.b.length k3] (0, 0) _ rfl (put_box b0) Tryd.underlying27 rfl (by kernel_rfl)) rfl ?_
 exact gives_put hRy b0 hBy (by omega) (by simp <;> omega)
end Go.Proofs.YtnjdkhnepmmfgaaDoor.Jo
namespace Go.Proofs.YtnjdkhnepmmfgaaDoor.Ad
set_option linter.unusedVariables false
set_option linter.unusedSimpArgs false
open Tdy Td Mg Rg Ti Tf Tid Go.Proofs.YtnjdkhnepmmfgaaDoor.Op
def colN : List Nat → Nat
 | [] => 0
 | d :: l => d + 3 * colN l
/-- A column without a tape; that of pads alone is the number behind the others. -/
def leftC (u tp c : Nat) : Nat := colN ((digs (u + 1) c).eraseIdx tp)
/-- The tapes that have come to a pad, without a tape. -/
def dropB (tp e : Nat) : Nat := e % 2 ^ tp + e / 2 ^ (tp + 1) * 2 ^ tp
def addRow (u tp : Nat) (rows : List (List Nat)) (q : Nat) : List Nat := (List.range (wdOf (u + 1))).map fun c => if leftC u tp c = wdOf u then q else (rows.getD q []).getD (leftC u tp c) 0
def rowsA (u tp : Nat) (rows : List (List Nat)) : List (List Nat) := (List.range rows.length).map (addRow u tp rows)
def factB (u tp e c : Nat) : Bool := !okC (padT (u + 1)) e c || (if dropB tp e = 2 ^ u - 1 then decide (leftC u tp c = wdOf u ∧ dropB tp (padT (u + 1) c) = 2 ^ u - 1)
 else if leftC u tp c = wdOf u then decide (dropB tp (padT (u + 1) c) = 2 ^ u - 1) else decide (leftC u tp c < wdOf u ∧ dropB tp (padT (u + 1) c) = padT u (leftC u tp c) ∧ padT u (leftC u tp c) ≠ 2 ^ u - 1) && okC (padT u) (dropB tp e) (leftC u tp c))
theorem facts : ((List.range 3).all fun u => u == 0 || (List.range (u + 1)).all fun tp => (List.range (2 ^ (u + 1))).all fun e => (List.range (wdOf (u + 1))).all fun c => factB u tp e c) = true := by decide +kernel
theorem left_le : ((List.range 3).all fun u => u == 0 || (List.range (u + 1)).all fun tp => (List.range (wdOf (u + 1))).all fun c => decide (leftC u tp c ≤ wdOf u)) = true := by decide +kernel
theorem left_lt {u tp c : Nat} (hu : 0 < u ∧ u < 3) (ht : tp ≤ u) (hc : c < wdOf (u + 1)) : leftC u tp c ≤ wdOf u := by
 have h := left_le
 simp only [List.all_eq_true, List.mem_range, Bool.or_eq_true, beq_iff_eq, decide_eq_true_eq] at h
 rcases h u hu.2 with h | h
 ·omega
 ·exact h tp (by omega) c hc
theorem pad_lt {u c : Nat} (hu : u < 3) (hc : c < wdOf (u + 1)) : padT (u + 1) c < 2 ^ (u + 1) := fin_pad (u + 1) (by omega) c (by have := wd_le (u + 1) (by omega); omega)
section
variable {u tp : Nat} {rows : List (List Nat)} {accs : List Bool}
theorem rowsA_len : (rowsA u tp rows).length = rows.length := by simp [rowsA]
theorem rowsA_step {q c : Nat} (hq : q < rows.length) (hc : c < wdOf (u + 1)) : ((rowsA u tp rows).getD q []).getD c 0 = if leftC u tp c = wdOf u then q else (rows.getD q []).getD (leftC u tp c) 0 := by
 unfold rowsA addRow
 simp [List.getD_eq_getElem?_getD, hq, hc]
theorem rowsA_closed (hu : 0 < u ∧ u < 3) (ht : tp ≤ u) (hcl : Closed (wdOf u) rows accs) : Closed (wdOf (u + 1)) (rowsA u tp rows) accs := by
 refine ⟨by rw [rowsA_len]; exact hcl.len, ?_, ?_⟩
 ·intro r hr
  obtain ⟨q, _, rfl⟩ := List.mem_map.1 hr
  simp [addRow]
 ·intro r hr x hx
  obtain ⟨q, hq, rfl⟩ := List.mem_map.1 hr
  obtain ⟨c, hc, rfl⟩ := List.mem_map.1 hx
  have hq' := List.mem_range.1 hq
  have hc' := List.mem_range.1 hc
  rw [rowsA_len]
  by_cases h : leftC u tp c = wdOf u
  ·rw [if_pos h]; exact hq'
  ·rw [if_neg h]
   exact hcl.step hq' (by have := left_lt hu ht hc'; omega)
/-- The tape is added to the tidy machine as to the machine itself. -/
theorem add_same (hu : 0 < u ∧ u < 3) (ht : tp ≤ u) {s : Nat} (hcl : Closed (wdOf u) rows accs) (hs : s < rows.length) :
  tidL (wdOf (u + 1)) (rowsA u tp (tidL (wdOf u) rows accs s (padT u)).2) (tidL (wdOf u) rows accs s (padT u)).1 0 (padT (u + 1)) = tidL (wdOf (u + 1)) (rowsA u tp rows) accs s (padT (u + 1)) := by
 obtain ⟨g1, g2, _, g4⟩ := made_good (made_t (t := u) (by omega) hs hcl)
 generalize tidL (wdOf u) rows accs s (padT u) = T at *
 refine tid_right (by omega) (by rw [rowsA_len]; exact g2) (rowsA_closed hu ht g1) (by rw [rowsA_len]; exact hs) (rowsA_closed hu ht hcl) ?_
 have h0 : (2 : Nat) ^ u - 1 ≠ 0 := by
  have : u = 1 ∨ u = 2 := by omega
  rcases this with rfl | rfl <;> decide
 have hd0 : dropB tp 0 = 0 := by simp [dropB]
 refine right_bisim (fun x q e => x < T.2.length ∧ q < rows.length ∧ e < 2 ^ (u + 1) ∧ ((dropB tp e ≠ 2 ^ u - 1 ∧ Same (wdOf u) (mach T.2 T.1) (right (mach rows accs) (okC (padT u)) (padT u)) x (some (q, dropB tp e))) ∨ (dropB tp e = 2 ^ u - 1 ∧ T.1.getD x false = accs.getD q false))) ?_ ?_ ⟨g2, hs, Nat.two_pow_pos _, .inl ⟨by rw [hd0]; exact fun e => h0 e.symm, by rw [hd0]; exact g4⟩⟩
 ·rintro x q e ⟨_, _, _, ⟨_, h⟩ | ⟨_, h⟩⟩
  ·exact h.acc
  ·exact h
 ·rintro x q e ⟨hx, hq, he, h⟩ c hc hok
  have hf := facts
  simp only [List.all_eq_true, List.mem_range, Bool.or_eq_true, beq_iff_eq] at hf
  have hf1 := (hf u hu.2).resolve_left (by omega) tp (by omega) e he c hc
  unfold factB at hf1
  rw [hok] at hf1
  simp only [Bool.not_true, Bool.false_or] at hf1
  have e1 : (mach (rowsA u tp T.2) T.1).step x c = if leftC u tp c = wdOf u then x else (T.2.getD x []).getD (leftC u tp c) 0 := rowsA_step hx hc
  have e2 : (mach (rowsA u tp rows) accs).step q c = if leftC u tp c = wdOf u then q else (rows.getD q []).getD (leftC u tp c) 0 := rowsA_step hq hc
  rw [e1, e2]
  have hp := pad_lt hu.2 hc
  by_cases hfull : dropB tp e = 2 ^ u - 1
  ·rw [if_pos hfull, decide_eq_true_eq] at hf1
   rw [if_pos hf1.1, if_pos hf1.1]
   refine ⟨hx, hq, hp, .inr ⟨hf1.2, ?_⟩⟩
   rcases h with ⟨h1, _⟩ | ⟨_, h2⟩
   ·exact absurd hfull h1
   ·exact h2
  ·rw [if_neg hfull] at hf1
   have hS : Same (wdOf u) (mach T.2 T.1) (right (mach rows accs) (okC (padT u)) (padT u)) x (some (q, dropB tp e)) := by
    rcases h with ⟨_, h2⟩ | ⟨h1, _⟩
    ·exact h2
    ·exact absurd h1 hfull
   by_cases hl : leftC u tp c = wdOf u
   ·rw [if_pos hl, decide_eq_true_eq] at hf1
    rw [if_pos hl, if_pos hl]
    exact ⟨hx, hq, hp, .inr ⟨hf1, hS.acc⟩⟩
   ·rw [if_neg hl, Bool.and_eq_true, decide_eq_true_eq] at hf1
    obtain ⟨⟨h1, h2, h3⟩, h4⟩ := hf1
    rw [if_neg hl, if_neg hl]
    have hS2 := hS.step h1
    have e3 : (right (mach rows accs) (okC (padT u)) (padT u)).step (some (q, dropB tp e)) (leftC u tp c) = some ((mach rows accs).step q (leftC u tp c), padT u (leftC u tp c)) := by
     show (if okC (padT u) (dropB tp e) (leftC u tp c) then some ((mach rows accs).step q (leftC u tp c), padT u (leftC u tp c)) else none) = _
     rw [if_pos h4]
    rw [e3] at hS2
    refine ⟨g1.step hx h1, hcl.step hq h1, hp, .inl ⟨by rw [h2]; exact h3, ?_⟩⟩
    rw [h2]
    exact hS2
end
end Go.Proofs.YtnjdkhnepmmfgaaDoor.Ad
namespace Go.Proofs.YtnjdkhnepmmfgaaDoor.PW3
open Go.RowKit Go.Proofs.YtnjdkhnepmmfgaaDoorW.PrintWords Go.Proofs.YtnjdkhnepmmfgaaDoorW.PrintLast Go.Proofs.YtnjdkhnepmmfgaaDoorW.PrintMore PB1
attribute [local go_sem] max2_int min2_int max_two min_two max_three min_three max_four min_four   -- for this text's walks alone
set_option linter.unusedVariables false
set_option linter.unusedSimpArgs false
def errW : Option Int → Value
 | none => .nilIface
 | some c => .iface 0 (.int .i64 c)
theorem errW_none : errW none = .nilIface := rfl
theorem errW_some (c : Int) : errW (some c) = .iface 0 (.int .i64 c) := rfl
end Go.Proofs.YtnjdkhnepmmfgaaDoor.PW3
namespace Go.Proofs.YtnjdkhnepmmfgaaDoor.PW3
open Go.RowKit Go.Proofs.YtnjdkhnepmmfgaaDoorW.PrintWords Go.Proofs.YtnjdkhnepmmfgaaDoorW.PrintLast Go.Proofs.YtnjdkhnepmmfgaaDoorW.PrintMore PB1
attribute [local go_sem] max2_int min2_int max_two min_two max_three min_three max_four min_four   -- for this text's walks alone
set_option linter.unusedVariables false
set_option linter.unusedSimpArgs false
/-! ### spec_l02Left: function 97 -/
def spec_l02Left.l0 : Nat → Int → Int → Int → Int → Int → Int → Option (Int)
 | 0, _, _, _, _, _, _ => none
 | k + 1, x0, x1, x2, x7, x8, x9 => if x9 < x1 then (if x9 = x2 then (spec_l02Left.l0 k x0 x1 x2 x7 x8 (wrap64 (x9 + 1))) else ((spec_l01Digit.f k x0 x9).bind fun t101 => ((spec_l01Power.f k x8).bind fun t102 => (spec_l02Left.l0 k x0 x1 x2 (wrap64 (x7 + (wrap64 (t101 * t102)))) (wrap64 (x8 + 1)) (wrap64 (x9 + 1)))))) else (some x7)
def spec_l02Left.f (k : Nat) (a0 : Int) (a1 : Int) (a2 : Int) : Option (Int) := spec_l02Left.l0 k a0 a1 a2 0 0 0
set_option maxHeartbeats 8000000 in
set_option maxRecDepth 100000 in
theorem spec_l02Left.calls (k : Nat) (a0 : Int) (a1 : Int) (a2 : Int) (r : Int) (w : World) (h : spec_l02Left.f k a0 a1 a2 = some r) :
  Calls Tryd.prog 97 #[.int .i64 a0, .int .i64 a1, .int .i64 a2] w fun e w' => e = .returned (.int .i64 r) ∧ Drawn0 w w' := by
 have H : (spec_l02Left.l0 k a0 a1 a2 0 0 0) = some r := h
 clear h
 have H' := Aside0.mk H
 clear H
 go_enter Tryd.func97, Tryd.ntmps97
 go_wp2
 go_loopg [7, 8, 9] k (fun kq v7 v8 v9 w' => ∃ (x7_1 : Int) (x8_1 : Int) (x9_1 : Int), v7 = .int .i64 x7_1 ∧ v8 = .int .i64 x8_1 ∧ v9 = .int .i64 x9_1 ∧ Aside0 (spec_l02Left.l0 kq a0 a1 a2 x7_1 x8_1 x9_1 = some r) ∧ Aside0 (kq ≤ k) ∧ Drawn0 w w')
 case atStart => exact ⟨(0), (0), (0), (by first | rfl | (simp; done) | (simp [*]; done) | (simp [wrap64]; done)), (by first | rfl | (simp; done) | (simp [*]; done) | (simp [wrap64]; done)), (by first | rfl | (simp; done) | (simp [*]; done) | (simp [wrap64]; done)), H', ⟨Nat.le_refl _⟩, by repeat (first | exact Drawn0.refl _ | apply Drawn0.step)⟩
 case round =>
  clear H'
  try clear p2
  obtain ⟨x7_1, x8_1, x9_1, rfl, rfl, rfl, HA, HK1, ⟨m1, rfl⟩⟩ := hrel
  cases gk with
  | zero => exact absurd HA.out (by simp [spec_l02Left.l0])
  | succ k1 =>
   have H := HA.out
   clear HA
   simp only [spec_l02Left.l0] at H
   by_cases c4 : x9_1 < a1
   ·rw [if_pos c4] at H
    have c4b0 : decide (x9_1 < a1) = true := decide_eq_true c4
    clear c4
    by_cases c5 : x9_1 = a2
    ·rw [if_pos c5] at H
     have c5b0 : (x9_1 == a2) = true := beq_iff_eq.mpr c5
     have c5b1 : (x9_1 != a2) = false := bne_eq_false_iff_eq.mpr c5
     clear c5
     have H' := Aside0.mk H
     clear H
     go_wp2
     go_roundg k1
     case measure => have := HK1.out; omega
     case rel => exact ⟨(x7_1), (x8_1), (wrap64 (x9_1 + 1)), (by first | rfl | (simp; done) | (simp [*]; done) | (simp [wrap64]; done)), (by first | rfl | (simp; done) | (simp [*]; done) | (simp [wrap64]; done)), (by first | rfl | (simp; done) | (simp [*]; done) | (simp [wrap64]; done)), H', ⟨by have := HK1.out; omega⟩, by repeat (first | exact Drawn0.refl _ | apply Drawn0.step)⟩
    ·rw [if_neg c5] at H
     have c5b0 : (x9_1 == a2) = false := beq_eq_false_iff_ne.mpr c5
     have c5b1 : (x9_1 != a2) = true := bne_iff_ne.mpr c5
     replace H := Option.bind_eq_some_iff.mp H
     obtain ⟨t101, A60, H⟩ := H
     replace H : ((spec_l01Power.f k1 x8_1).bind fun t102 => (spec_l02Left.l0 k1 a0 a1 a2 (wrap64 (x7_1 + (wrap64 (t101 * t102)))) (wrap64 (x8_1 + 1)) (wrap64 (x9_1 + 1)))) = some r := H
     have A6 := Aside0.mk A60
     clear A60
     replace H := Option.bind_eq_some_iff.mp H
     obtain ⟨t102, A70, H⟩ := H
     replace H : (spec_l02Left.l0 k1 a0 a1 a2 (wrap64 (x7_1 + (wrap64 (t101 * t102)))) (wrap64 (x8_1 + 1)) (wrap64 (x9_1 + 1))) = some r := H
     have A7 := Aside0.mk A70
     clear A70
     have H' := Aside0.mk H
     clear H
     go_wp2_with (first | ((with_reducible refine gate_callee (f := 54) rfl ?_); refine goesL_ (some 21) rfl rfl Tryd.func54 (by kernel_rfl) rfl #[.int .i64 a0, .int .i64 x9_1] rfl (by (try simp only [List.map_toArray, List.map_cons, List.map_nil]); first | done | rfl | (simp only [List.length_drop, List.length_take]; rfl)) ?_; (with_reducible refine (spec_l01Digit.calls k1 a0 x9_1 t101 _ A6.out).mono ?_); rintro e w' ⟨rfl, ⟨nd, rfl⟩⟩; refine ⟨_, rfl, ?_⟩) | ((with_reducible refine gate_callee (f := 91) rfl ?_); refine goesL_ (some 23) rfl rfl Tryd.func91 (by kernel_rfl) rfl #[.int .i64 x8_1] rfl (by (try simp only [List.map_toArray, List.map_cons, List.map_nil]); first | done | rfl | (simp only [List.length_drop, List.length_take]; rfl)) ?_; (with_reducible refine (spec_l01Power.calls k1 x8_1 t102 _ A7.out).mono ?_); rintro e w' ⟨rfl, ⟨nd, rfl⟩⟩; refine ⟨_, rfl, ?_⟩))
     go_roundg k1
     case measure => have := HK1.out; omega
     case rel => exact ⟨(wrap64 (x7_1 + (wrap64 (t101 * t102)))), (wrap64 (x8_1 + 1)), (wrap64 (x9_1 + 1)), (by first | rfl | (simp; done) | (simp [*]; done) | (simp [wrap64]; done)), (by first | rfl | (simp; done) | (simp [*]; done) | (simp [wrap64]; done)), (by first | rfl | (simp; done) | (simp [*]; done) | (simp [wrap64]; done)), H', ⟨by have := HK1.out; omega⟩, by repeat (first | exact Drawn0.refl _ | apply Drawn0.step)⟩
   ·rw [if_neg c4] at H
    have c4b0 : decide (x9_1 < a1) = false := decide_eq_false c4
    clear c4
    obtain rfl := Option.some.inj H
    simp only [Option.some.injEq, Prod.mk.injEq] at H
    obtain ⟨rfl⟩ := H
    go_wp2
    go_ret
    exact ⟨by first | rfl | (simp; done) | (simp [*]; done) | (simp [wrap64]; done), by repeat (first | exact Drawn0.refl _ | apply Drawn0.step)⟩
end Go.Proofs.YtnjdkhnepmmfgaaDoor.PW3
namespace Go.Proofs.YtnjdkhnepmmfgaaDoor.PW3
open Go.RowKit Go.Proofs.YtnjdkhnepmmfgaaDoorW.PrintWords Go.Proofs.YtnjdkhnepmmfgaaDoorW.PrintLast Go.Proofs.YtnjdkhnepmmfgaaDoorW.PrintMore PB1
attribute [local go_sem] max2_int min2_int max_two min_two max_three min_three max_four min_four   -- for this text's walks alone
set_option linter.unusedVariables false
set_option linter.unusedSimpArgs false
end Go.Proofs.YtnjdkhnepmmfgaaDoor.PW3
namespace Go.Proofs.YtnjdkhnepmmfgaaDoor.Ads
set_option linter.unusedVariables false
set_option linter.unusedSimpArgs false
open Go Go.RowKit Go.Proofs.YtnjdkhnepmmfgaaDoorW.PrintWords Go.Proofs.YtnjdkhnepmmfgaaDoorW.PrintLast Go.Proofs.YtnjdkhnepmmfgaaDoorW.PrintMore Kp Mg Mk Rt Tdy Tf Tid Ti Tr Go.Proofs.YtnjdkhnepmmfgaaDoor.Op Ad Lr Gv Bld Dfs PB1 PW3
def leftB (u tp c : Nat) : Bool := decide (spec_l02Left.f 60 (c : Int) ((u + 1 : Nat) : Int) (tp : Int) = some ((leftC u tp c : Nat) : Int))
theorem left_fin : ((List.range 3).all fun u => u == 0 || (List.range (u + 1)).all fun tp => (List.range (wdOf (u + 1))).all fun c => leftB u tp c) = true := by decide +kernel
theorem left_is {u tp c : Nat} (hu : 0 < u ∧ u < 3) (ht : tp ≤ u) (hc : c < wdOf (u + 1)) : spec_l02Left.f 60 (c : Int) ((u + 1 : Nat) : Int) (tp : Int) = some ((leftC u tp c : Nat) : Int) := by
 have h := left_fin
 simp only [List.all_eq_true, List.mem_range, Bool.or_eq_true, beq_iff_eq, leftB, decide_eq_true_eq] at h
 rcases h u hu.2 with h | h
 ·omega
 ·exact h tp (by omega) c hc
theorem empty_own (w0 W : World) (hb : Below w0.heap.size w0 W) : Kd.R Kd.bool 4 (W.alloc (.cells #[] 4)) w0.heap.size (fun _ => True) (.slice (some ⟨W.heap.size, 0, none⟩) 0 0) [] := by
 have h : (W.alloc (.cells #[] 4)).ownsRow w0.heap.size 4 1 (.slice (some ⟨W.heap.size, 0, none⟩) 0 0) 0 [] := by simpa using World.ownsRow_lit (base := w0.heap.size) (e := 4) (size := 1) W #[] 0 (Below.size hb) (by simp [maxLen]) (by simp)
 exact ⟨fun _ _ => trivial, [], h, Reps.none _ _⟩
set_option maxHeartbeats 8000000 in
set_option maxRecDepth 100000 in
theorem added (gr u u1 tp s n : Nat) (hu : 0 < u ∧ u < 3) (hu1 : u1 = u + 1) (ht : tp ≤ u) (a : List Bool) (rows : List (List Nat)) (hcl : Closed (wdOf u) rows a) (hs : s < rows.length) (hn : rows.length = n) (hn2 : n ≤ 10000) (A2 : Option Addr) (c2 : Nat) (A3 : Option Addr) (c3 : Nat) (w : World)
  (hP : w.heap[gr]? = some (.cells #[.int .i64 (u : Int), .int .i64 (s : Int), .slice A2 n c2, .slice A3 n c3] 27 (0, 0))) (hA : Kd.C Kd.bool w A2 n a) (hN : Kd.C Row w A3 n (rows.map ints)) :
  Calls Tryd.prog 67 #[.pointer (some ⟨gr, 0, none⟩), .int .i64 (tp : Int)] w fun e w' => ∃ D2 x2 D3 x3, e = .returned (.agg #[.int .i64 (u1 : Int), .int .i64 0, .slice D2 (tidL (wdOf u1) (rowsA u tp rows) a s (padT u1)).1.length x2, .slice D3 (tidL (wdOf u1) (rowsA u tp rows) a s (padT u1)).2.length x3]) ∧
   Rel w' w.heap.size (fun _ => True) D2 x2 (tidL (wdOf u1) (rowsA u tp rows) a s (padT u1)).1 D3 x3 ((tidL (wdOf u1) (rowsA u tp rows) a s (padT u1)).2.map ints) ∧ Below w.heap.size w w' := by
 have hf0 : spec_l01Tidied.f (u1 : Int) (s : Int) a ((rowsA u tp rows).map ints) = _ := Jo.tidF_mach (by omega) (by omega) (by rw [hu1]; exact rowsA_closed hu ht hcl) (by rw [rowsA_len]; exact hs) (by rw [rowsA_len]; omega)
 have hwd : wdOf u1 ≤ 30 := by have := wd_le u1 (by omega); omega
 have hwd1 : Aside0 (∀ W, Calls Tryd.prog 53 #[.int .i64 (u1 : Int)] W fun e W' => e = .returned (.int .i64 (wdOf u1 : Int)) ∧ Below W.heap.size W W') := ⟨fun W => (spec_l01Wide.calls 10 _ _ W (fin_wide _ (by omega)).2).mono (fun e W' hh => ⟨hh.1, hh.2.below⟩)⟩
 have hwd0 : Aside0 (∀ W, Calls Tryd.prog 53 #[.int .i64 (u : Int)] W fun e W' => e = .returned (.int .i64 (wdOf u : Int)) ∧ Below W.heap.size W W') := ⟨fun W => (spec_l01Wide.calls 10 _ _ W (fin_wide _ (by omega)).2).mono (fun e W' hh => ⟨hh.1, hh.2.below⟩)⟩
 have hlf : Aside0 (∀ c, c < wdOf u1 → spec_l02Left.f 60 (c : Int) (u1 : Int) (tp : Int) = some ((leftC u tp c : Nat) : Int) ∧ leftC u tp c ≤ wdOf u) := ⟨fun c hc => by rw [hu1] at hc ⊢; exact ⟨left_is hu ht hc, left_lt hu ht hc⟩⟩
 have hw1 : wrap64 ((u : Int) + 1) = (u1 : Int) := by unfold wrap64; omega
 obtain ⟨TT, hTT⟩ : ∃ TT, tidL (wdOf u1) (rowsA u tp rows) a s (padT u1) = TT := ⟨_, rfl⟩
 rw [hTT] at hf0 ⊢
 have hfq := Aside0.mk hf0
 have hb0 : Below w.heap.size w (w.alloc (.cells #[.int .i64 0, .int .i64 0, .slice none 0 0, .slice none 0 0] 27)) := below_alloc (Below.refl _ _) _
 have hP0 := blk_below hP hb0
 have bZ := blk_new w (.cells #[.int .i64 0, .int .i64 0, .slice none 0 0, .slice none 0 0] 27)
 have hAq := Aside0.mk (Kd.C_below hA hb0)
 have hNq := Aside0.mk (Kd.C_below hN hb0)
 have hs0 : (w.alloc (.cells #[.int .i64 0, .int .i64 0, .slice none 0 0, .slice none 0 0] 27)).heap.size = w.heap.size + 1 := by simp
 have halq : Aside0 (a.length = n) := ⟨by rw [← hcl.len]; exact hn⟩
 have m0 : (w.alloc (.cells #[.int .i64 0, .int .i64 0, .slice none 0 0, .slice none 0 0] 27)).cell? ⟨gr, 0, none⟩ = some (.int .i64 (u : Int)) := (blk_cell hP0 0).trans rfl
 have hnq := Aside0.mk hn2
 have hrnq := Aside0.mk hn
 have hclq := Aside0.mk hcl
 have hwdq := Aside0.mk hwd
 have hu1q := Aside0.mk hu1
 obtain ⟨wd, hwdE⟩ : ∃ x, wdOf u1 = x := ⟨_, rfl⟩
 obtain ⟨wo, hwoE⟩ : ∃ x, wdOf u = x := ⟨_, rfl⟩
 rw [hwdE] at hwd1 hlf hwdq
 rw [hwoE] at hwd0 hlf hclq
 have hwdE' := Aside0.mk hwdE
 have hwoE' := Aside0.mk hwoE
 clear hP hA hN hf0 hwd hTT hcl hs hn hn2 hu hu1 ht hwdE hwoE
 go_enter Tryd.func67, Tryd.ntmps67
 go_wp2_with fail
 generalize (w.alloc (.cells #[.int .i64 0, .int .i64 0, .slice none 0 0, .slice none 0 0] 27)) = w0 at *
 rw [hw1]
 clear m0 hw1
 have hSS : ∀ W', Below w0.heap.size w0 W' → (fun w' => w'.cell? ⟨gr, 1, none⟩ = some (.int .i64 (s : Int)) ∧ w'.cell? ⟨gr, 2, none⟩ = some (.slice A2 n c2)) W' := fun W' hb => ⟨(blk_cell (blk_below hP0 hb) 1).trans rfl, (blk_cell (blk_below hP0 hb) 2).trans rfl⟩
 have hB0 : Below w0.heap.size w0 w0.drew := below_drew1 (Below.refl _ _)
 refine st 14 (fun w' => w'.cell? ⟨gr, 1, none⟩ = some (.int .i64 (s : Int)) ∧ w'.cell? ⟨gr, 2, none⟩ = some (.slice A2 n c2)) [13] (hSS _ hB0) (fun hHeld => ?_)
 refine pu 0 16 ?_
 refine pu 1 17 ?_
 refine pu 2 18 ?_
 refine pu 3 19 ?_
 refine pu 6 22 ?_
 refine pu 7 23 ?_
 refine pu 8 24 ?_
 refine tk 4 20 hHeld ?_
 refine tk 9 25 hHeld ?_
 refine join_ (σ := Option Addr × Nat × Nat × Nat) 1 #[true, true, true, true, true, true, true, true, true, true, true, true, true, false] (fun z => [(21, .slice (some ⟨z.2.2.1, 0, none⟩) 0 0), (26, .slice z.1 n z.2.1), (27, .agg #[.int .i64 (u1 : Int), .int .i64 (s : Int), .slice z.1 n z.2.1, .slice none 0 0]), (6, .pointer (some ⟨z.2.2.2, 0, none⟩))])
  (fun z w' => Kd.R Kd.bool 4 w' w0.heap.size (fun _ => True) (.slice z.1 n z.2.1) a ∧ w'.heap[z.2.2.2]? = some (.cells #[.int .i64 0, .int .i64 0, .slice none 0 0, .slice none 0 0] 27 (0, 0)) ∧ Below w0.heap.size w0 w' ∧ w0.heap.size ≤ z.2.2.2) ?_ ?_
 rotate_left
 ·intro hCont
  refine two_ (i := 5) (j := 12) (Ni := some 21) (Nj := some 6) #[true, true, true, true, true, true, true, true, true, true, false, false, false, false] #[true, true, true, true, true, false, true, true, true, true, false, false, true, false] rfl rfl rfl rfl (by kernel_rfl) (by decide) (by decide) (fun K hK => ?_) (fun K hK => ?_)
  ·skip
   refine value_ (w1 := (w0.drew.alloc (.cells #[] 4))) (v := .slice (some ⟨w0.drew.heap.size, 0, none⟩) 0 0) (by rfl) rfl (by first | (go_simp; done) | (go_simp; rfl)) ?_
   have hb1 : Below w0.drew.heap.size w0.drew (w0.drew.alloc (.cells #[] 4)) := below_alloc (Below.refl _ _) _
   have hB1 := below_step hB0 hb1
   have hE1 := empty_own w0 w0.drew hB0
   refine hK.out _ _ (hSS _ hB1) (fun hHeld => ?_)
   clear hK K
   refine nm ?_
   refine two_ (i := 10) (j := 12) (Ni := some 26) (Nj := some 6) #[true, true, true, true, true, true, true, true, true, true, true, false, false, false] #[true, true, true, true, true, true, true, true, true, true, false, false, true, false] rfl rfl rfl rfl (by kernel_rfl) (by decide) (by decide) (fun K hK => ?_) (fun K hK => ?_)
   ·skip
    refine Kd.R_append_rows_step Kd.bool (w0 := w0) w0.heap.size (by rfl) (.tmp 21) (.tmp 25) 22 4 (.bool false) 1 rfl Tryd.underlying22 GwI.info_bool rfl (by decide) (by decide) (.slice (some ⟨w0.drew.heap.size, 0, none⟩) 0 0) [] a A2 n c2 (fun _ => True) (fun _ => False) rfl rfl hE1 (Kd.C_below hAq.out hB1) (fun _ _ h => h) (fun _ h => h.elim) (fun _ _ => trivial) hB1 (Below.size hB1) (by have := hnq.out; simp; omega) ?_
    intro v6 V2 hR6 hB2 hg6 hat6
    obtain ⟨A6, c6, e6⟩ := Kd.R_slice hR6
    rw [List.nil_append, halq.out] at e6
    rw [List.nil_append] at hR6
    subst e6
    refine hK.out _ _ (hSS _ hB2) (fun hHeld => ?_)
    clear hK K
    refine norm_ (show Act.put _ _ (.slice A6 n c6) = Act.put _ (some 26) _ from rfl) ?_
    refine nm ?_
    refine pu 11 27 ?_
    refine one_ (i := 12) (N := some 6) (zb 14 8191) rfl rfl (by kernel_rfl) (by decide) (fun K hK => ?_)
    refine value_ (w1 := (V2.alloc (.cells #[.int .i64 0, .int .i64 0, .slice none 0 0, .slice none 0 0] 27))) (v := .pointer (some ⟨V2.heap.size, 0, none⟩)) (by rfl) rfl (by first | (go_simp; done) | (go_simp; rfl)) ?_
    have hb3 : Below V2.heap.size V2 (V2.alloc (.cells #[.int .i64 0, .int .i64 0, .slice none 0 0, .slice none 0 0] 27)) := below_alloc (Below.refl _ _) _
    have hB3 := below_step hB2 hb3
    have hX3 := blk_new V2 (.cells #[.int .i64 0, .int .i64 0, .slice none 0 0, .slice none 0 0] 27)
    refine hK.out _ _ (hSS _ hB3) (fun hHeld => ?_)
    clear hK K
    refine nm ?_
    exact norm_ (by simp only [putAll, Act.put, List.setIfInBounds_toArray, List.set_cons_zero, List.set_cons_succ]) (hCont (A6, c6, w0.drew.heap.size, V2.heap.size) _ ⟨Kd.R_below hR6 hb3, hX3, hB3, Below.size hB2⟩)
   ·skip
    refine value_ (w1 := ((w0.drew.alloc (.cells #[] 4)).alloc (.cells #[.int .i64 0, .int .i64 0, .slice none 0 0, .slice none 0 0] 27))) (v := .pointer (some ⟨(w0.drew.alloc (.cells #[] 4)).heap.size, 0, none⟩)) (by rfl) rfl (by first | (go_simp; done) | (go_simp; rfl)) ?_
    have hb2 : Below (w0.drew.alloc (.cells #[] 4)).heap.size (w0.drew.alloc (.cells #[] 4)) ((w0.drew.alloc (.cells #[] 4)).alloc (.cells #[.int .i64 0, .int .i64 0, .slice none 0 0, .slice none 0 0] 27)) := below_alloc (Below.refl _ _) _
    have hB2 := below_step hB1 hb2
    have hX2 := blk_new (w0.drew.alloc (.cells #[] 4)) (.cells #[.int .i64 0, .int .i64 0, .slice none 0 0, .slice none 0 0] 27)
    refine hK.out _ _ (hSS _ hB2) (fun hHeld => ?_)
    clear hK K
    refine nm ?_
    refine one_ (i := 10) (N := some 26) (zb 14 6143) rfl rfl (by kernel_rfl) (by decide) (fun K hK => ?_)
    refine Kd.R_append_rows_step Kd.bool (w0 := w0) w0.heap.size (by rfl) (.tmp 21) (.tmp 25) 22 4 (.bool false) 1 rfl Tryd.underlying22 GwI.info_bool rfl (by decide) (by decide) (.slice (some ⟨w0.drew.heap.size, 0, none⟩) 0 0) [] a A2 n c2 (fun _ => True) (fun _ => False) rfl rfl (Kd.R_below hE1 hb2) (Kd.C_below hAq.out hB2) (fun _ _ h => h) (fun _ h => h.elim) (fun _ _ => trivial) hB2 (Below.size hB2) (by have := hnq.out; simp; omega) ?_
    intro v6 V3 hR6 hB3 hg6 hat6
    obtain ⟨A6, c6, e6⟩ := Kd.R_slice hR6
    rw [List.nil_append, halq.out] at e6
    rw [List.nil_append] at hR6
    subst e6
    have hX3 := (Keep.grown hg6).obj hX2 (off_ne hX2 (Off.row (Kd.R_below hE1 hb2) (by decide)))
    refine hK.out _ _ (hSS _ hB3) (fun hHeld => ?_)
    clear hK K
    refine norm_ (show Act.put _ _ (.slice A6 n c6) = Act.put _ (some 26) _ from rfl) ?_
    refine nm ?_
    refine pu 11 27 ?_
    exact norm_ (by simp only [putAll, Act.put, List.setIfInBounds_toArray, List.set_cons_zero, List.set_cons_succ]) (hCont (A6, c6, w0.drew.heap.size, (w0.drew.alloc (.cells #[] 4)).heap.size) _ ⟨hR6, hX3, hB3, Below.size hB1⟩)
  ·skip
   refine value_ (w1 := (w0.drew.alloc (.cells #[.int .i64 0, .int .i64 0, .slice none 0 0, .slice none 0 0] 27))) (v := .pointer (some ⟨w0.drew.heap.size, 0, none⟩)) (by rfl) rfl (by first | (go_simp; done) | (go_simp; rfl)) ?_
   have hb1 : Below w0.drew.heap.size w0.drew (w0.drew.alloc (.cells #[.int .i64 0, .int .i64 0, .slice none 0 0, .slice none 0 0] 27)) := below_alloc (Below.refl _ _) _
   have hB1 := below_step hB0 hb1
   have hX1 := blk_new w0.drew (.cells #[.int .i64 0, .int .i64 0, .slice none 0 0, .slice none 0 0] 27)
   refine hK.out _ _ (hSS _ hB1) (fun hHeld => ?_)
   clear hK K
   refine nm ?_
   refine one_ (i := 5) (N := some 21) (zb 14 5119) rfl rfl (by kernel_rfl) (by decide) (fun K hK => ?_)
   refine value_ (w1 := ((w0.drew.alloc (.cells #[.int .i64 0, .int .i64 0, .slice none 0 0, .slice none 0 0] 27)).alloc (.cells #[] 4))) (v := .slice (some ⟨(w0.drew.alloc (.cells #[.int .i64 0, .int .i64 0, .slice none 0 0, .slice none 0 0] 27)).heap.size, 0, none⟩) 0 0) (by rfl) rfl (by first | (go_simp; done) | (go_simp; rfl)) ?_
   have hb2 : Below (w0.drew.alloc (.cells #[.int .i64 0, .int .i64 0, .slice none 0 0, .slice none 0 0] 27)).heap.size (w0.drew.alloc (.cells #[.int .i64 0, .int .i64 0, .slice none 0 0, .slice none 0 0] 27)) ((w0.drew.alloc (.cells #[.int .i64 0, .int .i64 0, .slice none 0 0, .slice none 0 0] 27)).alloc (.cells #[] 4)) := below_alloc (Below.refl _ _) _
   have hB2 := below_step hB1 hb2
   have hE2 := empty_own w0 (w0.drew.alloc (.cells #[.int .i64 0, .int .i64 0, .slice none 0 0, .slice none 0 0] 27)) hB1
   have hX2 := blk_below hX1 hb2
   refine hK.out _ _ (hSS _ hB2) (fun hHeld => ?_)
   clear hK K
   refine nm ?_
   refine one_ (i := 10) (N := some 26) (zb 14 6143) rfl rfl (by kernel_rfl) (by decide) (fun K hK => ?_)
   refine Kd.R_append_rows_step Kd.bool (w0 := w0) w0.heap.size (by rfl) (.tmp 21) (.tmp 25) 22 4 (.bool false) 1 rfl Tryd.underlying22 GwI.info_bool rfl (by decide) (by decide) (.slice (some ⟨(w0.drew.alloc (.cells #[.int .i64 0, .int .i64 0, .slice none 0 0, .slice none 0 0] 27)).heap.size, 0, none⟩) 0 0) [] a A2 n c2 (fun _ => True) (fun _ => False) rfl rfl hE2 (Kd.C_below hAq.out hB2) (fun _ _ h => h) (fun _ h => h.elim) (fun _ _ => trivial) hB2 (Below.size hB2) (by have := hnq.out; simp; omega) ?_
   intro v6 V3 hR6 hB3 hg6 hat6
   obtain ⟨A6, c6, e6⟩ := Kd.R_slice hR6
   rw [List.nil_append, halq.out] at e6
   rw [List.nil_append] at hR6
   subst e6
   have hX3 := (Keep.grown hg6).obj hX2 (off_ne hX2 (Off.row hE2 (by decide)))
   refine hK.out _ _ (hSS _ hB3) (fun hHeld => ?_)
   clear hK K
   refine norm_ (show Act.put _ _ (.slice A6 n c6) = Act.put _ (some 26) _ from rfl) ?_
   refine nm ?_
   refine pu 11 27 ?_
   exact norm_ (by simp only [putAll, Act.put, List.setIfInBounds_toArray, List.set_cons_zero, List.set_cons_succ]) (hCont (A6, c6, (w0.drew.alloc (.cells #[.int .i64 0, .int .i64 0, .slice none 0 0, .slice none 0 0] 27)).heap.size, w0.drew.heap.size) _ ⟨hR6, hX3, hB3, Below.size hB0⟩)
 rintro ⟨A6, c6, g5, gX⟩ W ⟨hR6, bX, hBW, hle⟩
 dsimp only at hR6 bX hle ⊢
 refine norm_ (a' := ?_) ?_ ?_
 rotate_left
 ·simp only [putAll, Act.put, List.setIfInBounds_toArray, List.set_cons_zero, List.set_cons_succ, i64_w, i32_w]
  rfl
 have e0 : W.cell? ⟨gX, 0, none⟩ = some (.int .i64 0) := (blk_cell bX 0).trans rfl
 have f0 : W.frozen? ⟨gX, 0, none⟩ = false := blk_frozen bX 0
 have e1 : W.cell? ⟨gX, 1, none⟩ = some (.int .i64 0) := (blk_cell bX 1).trans rfl
 have f1 : W.frozen? ⟨gX, 1, none⟩ = false := blk_frozen bX 1
 have e2 : W.cell? ⟨gX, 2, none⟩ = some (.slice none 0 0) := (blk_cell bX 2).trans rfl
 have f2 : W.frozen? ⟨gX, 2, none⟩ = false := blk_frozen bX 2
 have e3 : W.cell? ⟨gX, 3, none⟩ = some (.slice none 0 0) := (blk_cell bX 3).trans rfl
 have f3 : W.frozen? ⟨gX, 3, none⟩ = false := blk_frozen bX 3
 refine la 13 (fun K hK => ?_)
 refine sk (((((W.setCell ⟨gX, 0, none⟩ (.int .i64 (u1 : Int))).setCell ⟨gX, 1, none⟩ (.int .i64 (s : Int))).setCell ⟨gX, 2, none⟩ (.slice A6 n c6)).setCell ⟨gX, 3, none⟩ (.slice none 0 0))) ?_
 refine hK.out _ _ ?_
 clear hK K
 refine dn ?_
 have hB : B w0 (u1 : Int) (s : Int) gX none (.slice A6 n c6) a (.slice none 0 0) [] ((((W.setCell ⟨gX, 0, none⟩ (.int .i64 (u1 : Int))).setCell ⟨gX, 1, none⟩ (.int .i64 (s : Int))).setCell ⟨gX, 2, none⟩ (.slice A6 n c6)).setCell ⟨gX, 3, none⟩ (.slice none 0 0)) := ⟨blk_put (blk_put (blk_put (blk_put bX 0 _ rfl) 1 _ rfl) 2 _ rfl) 3 _ rfl, Kd.R_set (Kd.R_set (Kd.R_set (Kd.R_set hR6 bX (by decide) 0 _) (blk_put bX 0 _ rfl) (by decide) 1 _) (blk_put (blk_put bX 0 _ rfl) 1 _ rfl) (by decide) 2 _) (blk_put (blk_put (blk_put bX 0 _ rfl) 1 _ rfl) 2 _ rfl) (by decide) 3 _, Kd.R_nil _ _ _ _ _, (((hBW.setCell hle _).setCell hle _).setCell hle _).setCell hle _, hle⟩
 clear e0 e1 e2 e3 f0 f1 f2 f3 bX hBW hR6 hB0 hSS
 generalize ((((W.setCell ⟨gX, 0, none⟩ (.int .i64 (u1 : Int))).setCell ⟨gX, 1, none⟩ (.int .i64 (s : Int))).setCell ⟨gX, 2, none⟩ (.slice A6 n c6)).setCell ⟨gX, 3, none⟩ (.slice none 0 0)) = w3 at hB ⊢
 obtain ⟨GA, hGA⟩ : ∃ GA, Aside0 (GA = addRow u tp rows) := ⟨_, ⟨rfl⟩⟩
 go_wp2_with fail
 go_loopg [7] n (fun kq v7 W => ∃ (i : Nat) (vN : Value), v7 = .int .i64 (i : Int) ∧ Aside0 (kq = n - i) ∧ i ≤ n ∧ Aside0 (B w0 (u1 : Int) (s : Int) gX none (.slice A6 n c6) a vN ((List.range i).map GA) W))
 case atStart => exact ⟨0, _, rfl, ⟨rfl⟩, Nat.zero_le _, ⟨hB⟩⟩
 case round =>
  clear hB
  obtain ⟨i, vN, rfl, hk, hi, hB⟩ := hrel
  replace hB := hB.out
  have q2 : wr.cell? ⟨gr, 2, none⟩ = some (.slice A2 n c2) := (blk_cell (blk_below hP0 hB.bel) 2).trans rfl
  by_cases hlt : i < n
  ·have hi1 : ((i : Int) < (n : Int)) = True := eq_true (by omega)
   have h0i : (0 ≤ (i : Int)) = True := eq_true (by omega)
   have hiq := Aside0.mk hlt
   obtain ⟨x3, rfl, X5, c5, kx3, _, hCx⟩ := at_row hNq.out i (by rw [List.length_map, hrnq.out]; exact hlt)
   have ex : (rows.map ints)[i]'(by rw [List.length_map, hrnq.out]; exact hlt) = ints (rows.getD i []) := by simp [List.getD_eq_getElem?_getD, show i < rows.length by rw [hrnq.out]; exact hlt]
   have lx : (ints (rows.getD i [])).length = wo := by rw [ints_length, List.getD_eq_getElem?_getD, List.getElem?_eq_getElem (by rw [hrnq.out]; exact hlt)]; exact hclq.out.wide _ (List.getElem_mem _)
   rw [ex, lx] at kx3 hCx
   have hCxq := Aside0.mk hCx
   have lxq := Aside0.mk lx
   have hb := hB.born
   clear ex lx hCx
   go_wp2_with fail
   clear q2 hB
   go_loopg [8, 9] (wd + 1) (fun ky v8 v9 W => ∃ (c : Nat) (r : List Nat) (Ar : Option Addr) (cr : Nat), v8 = .slice Ar c cr ∧ v9 = .int .i64 (c : Int) ∧ Aside0 (ky = wd + 1 - c) ∧ c ≤ wd ∧ Aside0 (r.length = c) ∧ Aside0 (r = (List.range c).map fun c => if leftC u tp c = wo then i else (rows.getD i []).getD (leftC u tp c) 0) ∧ Aside0 (Br w0 (u1 : Int) (s : Int) gX (.slice Ar c cr) r (.slice A6 n c6) a vN ((List.range i).map GA) W))
   case atStart => exact ⟨0, [], _, _, rfl, rfl, ⟨rfl⟩, Nat.zero_le _, ⟨rfl⟩, ⟨rfl⟩, ⟨hb⟩⟩
   case round =>
    clear hb
    obtain ⟨c, r, Ar, cr, rfl, rfl, hy, hc, hrl, hr, h⟩ := hrel
    replace h := h.out
    by_cases hlc : c < wd
    ·have hc1 : ((c : Int) < (wd : Int)) = True := eq_true (by omega)
     obtain ⟨hL, hLl⟩ := hlf.out c hlc
     obtain ⟨L, hLe⟩ : ∃ L, leftC u tp c = L := ⟨_, rfl⟩
     rw [hLe] at hL hLl
     have hLq := Aside0.mk hL
     have hLeq := Aside0.mk hLe
     have hlcq := Aside0.mk hlc
     clear hL hLe
     by_cases hLw : L = wo
     ·have z1 : ((L : Int) = (wo : Int)) = True := eq_true (by omega)
      have z2 : ((L : Int) == (wo : Int)) = true := by rw [hLw]; exact beq_self_eq_true _
      have hLwq := Aside0.mk hLw
      clear hLw hLl hlc
      go_wp2_with (first
        | (go_at_call 53; (with_reducible refine (hwd1.out _).mono ?_); go_loud (
          rintro e wb ⟨rfl, hbb⟩
          have h4 := h.step hbb))
        | (go_at_call 97; go_loud (
          with_reducible refine (spec_l02Left.calls 60 (c : Int) (u1 : Int) (tp : Int) (L : Int) wb hLq.out).mono ?_
          rintro e wc ⟨rfl, hdc⟩
          have h5 := h4.step hdc.below
          have q0 : wc.cell? ⟨gr, 0, none⟩ = some (.int .i64 (u : Int)) := (blk_cell (blk_below hP0 h5.g.bel) 0).trans rfl))
        | (go_at_call 53; go_loud (
          with_reducible refine (hwd0.out _).mono ?_
          rintro e wd' ⟨rfl, hbd⟩
          have h6 := h5.step hbd))
        | ((with_reducible refine gate_builtin (b := .append) (xs := #[.tmp 55, .tmp 57]) rfl ?_); go_loud (
        at_builtin
        refine R_append' (Kd.int .i64) (w0 := w0) w0.heap.size rfl (.tmp 55) (.tmp 57) 75 2 (.int .i64 0) 8 rfl Tryd.underlying75 Ro.info_long1 rfl (by decide) (by decide) (.slice Ar c cr) (ints r) (i : Int) [.int .i64 (i : Int)] (fun k => True ∧ some k ≠ vN.ownBlock) (fun _ => False) _ (by simp) rfl rfl rfl (fun _ h => h.elim) (fun k hk => ⟨trivial, Kd.fresh_ok h6.g.nxt k hk⟩) h6.row h6.g.bel (Below.size h6.g.bel) (by rw [ints_length]; have := hrl.out; have := hwdq.out; omega) ?_
        intro v6 w6 hR6 hb6 hg6 hat6
        obtain ⟨A6', c6', hv6⟩ := Kd.R_slice hR6
        rw [List.length_append, List.length_singleton, ints_length, hrl.out] at hv6
        subst hv6
        have er : ints r ++ [(i : Int)] = ints (r ++ [i]) := (by simp [ints, GwI.ints])
        rw [er] at hR6
        have h8 := h6.more hg6 hat6 hR6 hb6)))
      go_roundg (wd + 1 - (c + 1))
      case measure => have := hy.out; have := hlcq.out; omega
      case rel => exact ⟨c + 1, r ++ [i], _, _, rfl, v_succ (by have := hwdq.out; have := hlcq.out; omega), ⟨rfl⟩, (by have := hlcq.out; omega), ⟨by rw [List.length_append, List.length_singleton, hrl.out]⟩, ⟨by rw [range_map_succ, ← hr.out, hLeq.out, if_pos hLwq.out]⟩, ⟨h8⟩⟩
     ·have z1 : ((L : Int) = (wo : Int)) = False := eq_false (by omega)
      have z2 : ((L : Int) == (wo : Int)) = false := beq_eq_false_iff_ne.mpr (by omega)
      have hLl1 : ((L : Int) < (wo : Int)) = True := eq_true (by omega)
      have h0L : (0 ≤ (L : Int)) = True := eq_true (by omega)
      obtain ⟨x5, rfl, kx5⟩ := at_num hCxq.out L (by rw [lxq.out]; omega)
      rw [get_int (rows.getD i []) L (by rw [lxq.out]; omega)] at kx5
      obtain ⟨X, hX⟩ : ∃ X, (rows.getD i []).getD L 0 = X := ⟨_, rfl⟩
      rw [hX] at kx5
      have hXq := Aside0.mk hX
      have hLwq := Aside0.mk hLw
      clear hLw hLl hlc hX
      go_wp2_with (first
        | (go_at_call 53; (with_reducible refine (hwd1.out _).mono ?_); go_loud (
          rintro e wb ⟨rfl, hbb⟩
          have h4 := h.step hbb))
        | (go_at_call 97; go_loud (
          with_reducible refine (spec_l02Left.calls 60 (c : Int) (u1 : Int) (tp : Int) (L : Int) wb hLq.out).mono ?_
          rintro e wc ⟨rfl, hdc⟩
          have h5 := h4.step hdc.below
          have q0 : wc.cell? ⟨gr, 0, none⟩ = some (.int .i64 (u : Int)) := (blk_cell (blk_below hP0 h5.g.bel) 0).trans rfl))
        | (go_at_call 53; go_loud (
          with_reducible refine (hwd0.out _).mono ?_
          rintro e wd' ⟨rfl, hbd⟩
          have h6 := h5.step hbd
          have q3 : wd'.cell? ⟨gr, 3, none⟩ = some (.slice (some x3) n c3) := (blk_cell (blk_below hP0 h6.g.bel) 3).trans rfl
          have qx3 := at_cell h6.g.bel kx3
          have qx5 := at_cell h6.g.bel kx5))
        | ((with_reducible refine gate_builtin (b := .append) (xs := #[.tmp 59, .tmp 70]) rfl ?_); go_loud (
        at_builtin
        refine R_append' (Kd.int .i64) (w0 := w0) w0.heap.size rfl (.tmp 59) (.tmp 70) 75 2 (.int .i64 0) 8 rfl Tryd.underlying75 Ro.info_long1 rfl (by decide) (by decide) (.slice Ar c cr) (ints r) (X : Int) [.int .i64 (X : Int)] (fun k => True ∧ some k ≠ vN.ownBlock) (fun _ => False) _ (by simp) rfl rfl rfl (fun _ h => h.elim) (fun k hk => ⟨trivial, Kd.fresh_ok h6.g.nxt k hk⟩) h6.row h6.g.bel (Below.size h6.g.bel) (by rw [ints_length]; have := hrl.out; have := hwdq.out; omega) ?_
        intro v6 w6 hR6 hb6 hg6 hat6
        obtain ⟨A6', c6', hv6⟩ := Kd.R_slice hR6
        rw [List.length_append, List.length_singleton, ints_length, hrl.out] at hv6
        subst hv6
        have er : ints r ++ [(X : Int)] = ints (r ++ [X]) := (by simp [ints, GwI.ints])
        rw [er] at hR6
        have h8 := h6.more hg6 hat6 hR6 hb6)))
      go_roundg (wd + 1 - (c + 1))
      case measure => have := hy.out; have := hlcq.out; omega
      case rel => exact ⟨c + 1, r ++ [X], _, _, rfl, v_succ (by have := hwdq.out; have := hlcq.out; omega), ⟨rfl⟩, (by have := hlcq.out; omega), ⟨by rw [List.length_append, List.length_singleton, hrl.out]⟩, ⟨by rw [range_map_succ, ← hr.out, hLeq.out, if_neg hLwq.out, hXq.out]⟩, ⟨h8⟩⟩
    ·have hc1 : ((c : Int) < (wd : Int)) = False := eq_false (by omega)
     have hcc : c = wd := by omega
     subst hcc
     have hrG : ints r = ints (GA i) := by rw [hGA.out]; unfold addRow; rw [← hu1q.out, hwdE'.out, hwoE'.out, ← hr.out]
     go_wp2_with (first
      | (go_at_call 53; go_loud (
        with_reducible refine (hwd1.out _).mono ?_
        rintro e wb ⟨rfl, hbb⟩
        have h4 := h.step hbb
        have k3 : wb.cell? ⟨gX, 3, none⟩ = some vN := (blk_cell h4.g.bX 3).trans rfl))
      | ((with_reducible refine gate_builtin (b := .append) (xs := #[.tmp 73, .tmp 75]) rfl ?_); go_loud (
        at_builtin
        refine R_append' Row (w0 := w0) w0.heap.size rfl (.tmp 73) (.tmp 75) 23 75 (.slice none 0 0) 24 rfl Tryd.underlying23 Ro.info_longs rfl (by decide) (by decide) vN (((List.range i).map GA).map ints) (ints r) [.slice Ar c cr] (fun _ => True) (fun k => True ∧ some k ≠ vN.ownBlock) _ (by simp) rfl rfl (by have q := h4.row; have hl : (ints r).length = c := (by rw [ints_length]; exact hrl.out); exact ⟨_, rfl, q⟩) (fun k hk => hk) (fun k hk => trivial) (Kd.R_mono h4.g.nxt (fun k hk => trivial)) h4.g.bel (Below.size h4.g.bel) (by have := hnq.out; have := hiq.out; simp <;> omega) ?_
        intro v8 w8 hR8 hb8 hg8 hat8
        obtain ⟨A8, c8, hv8⟩ := Kd.R_slice hR8
        obtain ⟨n8, hn8⟩ : ∃ n, (((List.range i).map GA).map ints ++ [ints r]).length = n := ⟨_, rfl⟩
        rw [hn8] at hv8
        subst hv8
        clear hn8
        have er : ((List.range i).map GA).map ints ++ [ints r] = ((List.range (i + 1)).map GA).map ints := (by rw [hrG, range_map_succ, List.map_append]; rfl)
        rw [er] at hR8
        obtain ⟨b9, h9⟩ := h4.nxt hg8 hR8 hb8
        have c84 : w8.cell? ⟨gX, 3, none⟩ = some vN := (blk_cell b9 3).trans rfl
        have f84 : w8.frozen? ⟨gX, 3, none⟩ = false := blk_frozen b9 3)))
     go_roundg (n - (i + 1))
     case measure => have := hk.out; have := hiq.out; omega
     case rel => exact ⟨i + 1, _, v_succ (by have := hnq.out; have := hiq.out; omega), ⟨rfl⟩, (by have := hiq.out; omega), ⟨h9⟩⟩
  ·have hi1 : ((i : Int) < (n : Int)) = False := eq_false (by omega)
   have hii : i = n := by omega
   have eN : ((List.range i).map GA).map ints = (rowsA u tp rows).map ints := by unfold rowsA; rw [hii, hrnq.out, hGA.out]
   have hnx := hB.nxt
   rw [eN] at hnx
   obtain ⟨A7, c7, e7, hc7, hC7⟩ := Kd.R_reads hnx
   obtain ⟨A5, c5, e5, hc5, hC5⟩ := Kd.R_reads hB.acc
   have e5' : A6 = A5 ∧ c6 = c5 := by
    simp only [Value.slice.injEq] at e5
    exact ⟨e5.1, e5.2.2⟩
   obtain ⟨rfl, rfl⟩ := e5'
   have hl7 : Aside0 (((rowsA u tp rows).map ints).length = n) := ⟨by rw [List.length_map, rowsA_len]; exact hrnq.out⟩
   rw [hl7.out] at e7
   subst e7
   have bX := hB.bX
   have hBw := below_step hb0 hB.bel
   have hbZ := blk_below bZ hB.bel
   clear hnx hB eN
   go_wp2_with (go_at_call 39; go_loud (
    with_reducible refine (spec_l01Tidied.calls gX (u1 : Int) (s : Int) A6 c6 a A7 c7 ((rowsA u tp rows).map ints) _ _ _ _ wr (by rw [halq.out, hl7.out]; exact bX) hC5 hc5 hC7 hc7 hfq.out).mono ?_
    rintro e wx ⟨v2, v3, rfl, p2, p3, hbx⟩
    obtain ⟨D2, x2, e2⟩ := Kd.R_slice p2
    subst e2
    obtain ⟨D3, x3, e3⟩ := Kd.S_slice p3
    rw [List.length_map] at e3
    subst e3
    have b0 : ZBox wx w.heap.size := blk_below hbZ hbx
    have hRel : Rel wx w.heap.size (fun _ => True) D2 x2 TT.1 D3 x3 (TT.2.map ints) := ⟨Kd.R_lower p2 (Below.size hBw), Kd.S_lower (by rw [List.length_map]; exact p3) (Below.size hBw)⟩
    have hBx := below_step hBw hbx
    obtain ⟨e0, e1, e2, e3⟩ := box b0
    obtain ⟨f0, f1, f2, f3⟩ := box_open b0))
   refine bodyPost_ret (results_cell_row rfl _ _ w.heap.size 27 #[.int .i64 (u1 : Int), .int .i64 0, .slice D2 TT.1.length x2, .slice D3 TT.2.length x3] (0, 0) _ rfl (put_box b0) Tryd.underlying27 rfl (by kernel_rfl)) rfl ⟨D2, x2, D3, x3, rfl, ?_, ?_⟩
   ·exact put_rel hRel b0
   ·exact put_below hBx (Nat.le_refl _)
end Go.Proofs.YtnjdkhnepmmfgaaDoor.Ads
namespace Go.Proofs.YtnjdkhnepmmfgaaDoor.Lw
set_option linter.unusedVariables false
set_option linter.unusedSimpArgs false
open Go.RowKit Go.Proofs.YtnjdkhnepmmfgaaDoorW.PrintWords Go.Proofs.YtnjdkhnepmmfgaaDoorW.PrintLast Go.Proofs.YtnjdkhnepmmfgaaDoorW.PrintMore Kp Mg Mk Tdy Tf Tid Ti Tr Lr
/-- What is given is small. -/
structure Fit (R : RRes) : Prop where
 a : R.a.length ≤ 150
 b : R.b.length ≤ 150
 r : ∀ x ∈ R.b, x.length ≤ 26
theorem tot_small {l : List (List Int)} {m : Nat} (h : ∀ x ∈ l, x.length ≤ m) : tot l ≤ m * l.length := by
 induction l with
 | nil => simp [tot]
 | cons r l ih =>
  rw [tot_cons, List.length_cons, Nat.mul_succ]
  have h1 := h r (List.mem_cons_self ..)
  have h2 := ih (fun x hx => h x (List.mem_cons_of_mem _ hx))
  omega
theorem Fit.tot {R : RRes} (h : Fit R) : tot R.b ≤ 3900 := by
 have := tot_small h.r
 have := h.b
 omega
theorem Fit.small {R : RRes} (h : Fit R) : Small R.a R.b := ⟨by have := h.a; omega, by have := h.b; omega, fun r hr => by have := h.r r hr; omega⟩
theorem fit_bad (c : Int) : Fit (bad c) := ⟨by simp [bad], by simp [bad], by simp [bad]⟩
theorem fit_told (t : Nat) (ht : t < 4) (T : Int) {a : List Bool} {rows : List (List Nat)} (h : Closed (wdOf t) rows a) : Fit (toldR T a (rows.map ints)) := by
 unfold toldR
 by_cases hc : a.length ≤ 150
 ·rw [if_pos hc]
  refine ⟨hc, by simp only [List.length_map]; rw [h.len]; exact hc, fun x hx => ?_⟩
  obtain ⟨r, hr, rfl⟩ := List.mem_map.1 hx
  rw [ints_length, h.wide r hr]
  exact wd_le t ht
 ·rw [if_neg hc]
  exact fit_bad 3
section
variable {w W W' : World} {base : Nat} {ok : Nat → Prop} {A2 A3 : Option Addr} {c2 c3 : Nat} {a : List Bool} {b : List (List Int)}
theorem rel_arg (h : Rel W base ok A2 c2 a A3 c3 b) : Arg W A2 c2 a A3 c3 b := ⟨(Kd.R_reads' h.r2).2.2, (Kd.R_reads' h.r2).2.1, (Kd.S_reads' h.r3).2.2, (Kd.S_reads' h.r3).2.1⟩
theorem rel_lower {base' : Nat} (h : Rel W base ok A2 c2 a A3 c3 b) (hl : base' ≤ base) : Rel W base' ok A2 c2 a A3 c3 b := ⟨Kd.R_lower h.r2 hl, Kd.S_lower h.r3 hl⟩
/-- What was just given, later. -/
theorem rel_old (h : Rel w base (fun _ => True) A2 c2 a A3 c3 b) (hb : Below w.heap.size w W) {base' : Nat} (hl : base' ≤ base) : Rel W base' (fun k => k < w.heap.size) A2 c2 a A3 c3 b :=
 rel_lower ((h.bound.step (fun k hk _ => hb.block k hk.2.2)).mono (fun k hk => hk.2.2)) hl
end
/-- The blocks of one relation in memory. -/
structure Bx where
 t : Int
 s : Int
 A2 : Option Addr
 n2 : Nat
 c2 : Nat
 A3 : Option Addr
 n3 : Nat
 c3 : Nat
def Bx.cells (x : Bx) : Array Value := #[.int .i64 x.t, .int .i64 x.s, .slice x.A2 x.n2 x.c2, .slice x.A3 x.n3 x.c3]
/-- What stands in memory: the argument's box, the awaited relation, the copy that was handed over, the relation that was given. -/
structure St (w : World) (P : Array Value) (gW gX gG : Nat) (bW bX bG : Bx) (wa : List Bool) (wb : List (List Int)) (xa : List Bool) (xb : List (List Int)) (ga : List Bool) (gb : List (List Int)) (W : World) : Prop where
 bel : Below w.heap.size w W
 p : W.heap[w.heap.size]? = some (.cells P 25 (0, 0))
 pw : W.heap[gW]? = some (.cells bW.cells 27 (0, 0))
 px : W.heap[gX]? = some (.cells bX.cells 27 (0, 0))
 pg : W.heap[gG]? = some (.cells bG.cells 27 (0, 0))
 lW : w.heap.size < gW
 lX : gW < gX
 lG : gX < gG
 nW2 : bW.n2 = wa.length
 nW3 : bW.n3 = wb.length
 nX2 : bX.n2 = xa.length
 nX3 : bX.n3 = xb.length
 nG2 : bG.n2 = ga.length
 nG3 : bG.n3 = gb.length
 rW : Rel W (w.heap.size + 1) (fun k => k < gW) bW.A2 bW.c2 wa bW.A3 bW.c3 wb
 rX : Rel W (gW + 1) (fun k => k < gX) bX.A2 bX.c2 xa bX.A3 bX.c3 xb
 rG : Rel W (gX + 1) (fun k => k < gG) bG.A2 bG.c2 ga bG.A3 bG.c3 gb
section
variable {w W W' : World} {P : Array Value} {gW gX gG : Nat} {bW bX bG : Bx} {wa xa ga xa' ga' : List Bool} {wb xb gb xb' gb' : List (List Int)}
theorem St.below (h : St w P gW gX gG bW bX bG wa wb xa xb ga gb W) (hb : Below W.heap.size W W') : St w P gW gX gG bW bX bG wa wb xa xb ga gb W' :=
 { h with bel := below_step h.bel hb, p := blk_below h.p hb, pw := blk_below h.pw hb, px := blk_below h.px hb, pg := blk_below h.pg hb, rW := h.rW.below hb, rX := h.rX.below hb, rG := h.rG.below hb }
end
set_option maxHeartbeats 1000000 in
theorem mark1 {T : Nat} (t s : Int) (A2 : Option Addr) (c2 : Nat) (a : List Bool) (A3 : Option Addr) (c3 : Nat) (b : List (List Int)) (w : World) (base : Nat) (ok : Nat → Prop) (hle : base ≤ w.heap.size) (h : Rel w base ok A2 c2 a A3 c3 b) (hl : b.length ≤ 2000000) (hk : 1 + a.length + tot b ≤ 1000000000) (hT : 1 + a.length + tot b = T) :
  Calls Tryd.prog 11 #[.agg #[.int .i64 t, .int .i64 s, .slice A2 a.length c2, .slice A3 b.length c3], .int .i64 1] w fun e w' => e = .returned (.int .i64 (T : Int)) ∧ Rel w' base ok A2 c2 (mB 1 a.length) A3 c3 (mR (1 + a.length) b) ∧ KeepS base w w' ok := by
 subst hT
 exact markRel 1 t s A2 c2 a A3 c3 b w base ok hle h hl hk
set_option maxHeartbeats 1000000 in
theorem held1 {T : Nat} (n : Nat) (t s : Int) (A2 : Option Addr) (c2 : Nat) (A3 : Option Addr) (c3 : Nat) (b : List (List Int)) (w : World) (h2 : Kd.C Kd.bool w A2 n (mB 1 n)) (h3 : Kd.C Row w A3 b.length (mR (1 + n) b)) (hl : b.length ≤ 2000000) (hk : 1 + n + tot b ≤ 1000000000) (hT : 1 + n + tot b = T) :
  Calls Tryd.prog 12 #[.agg #[.int .i64 t, .int .i64 s, .slice A2 n c2, .slice A3 b.length c3], .int .i64 1] w fun e w' => e = .returned (.int .i64 (T : Int)) ∧ Below w.heap.size w w' := by
 subst hT
 exact heldRel 1 n t s A2 c2 A3 c3 b w h2 h3 hl hk
end Go.Proofs.YtnjdkhnepmmfgaaDoor.Lw
namespace Go.Proofs.YtnjdkhnepmmfgaaDoor.Adt
set_option linter.unusedVariables false
set_option linter.unusedSimpArgs false
open Go Go.RowKit Go.Proofs.YtnjdkhnepmmfgaaDoorW.PrintWords Go.Proofs.YtnjdkhnepmmfgaaDoorW.PrintLast Go.Proofs.YtnjdkhnepmmfgaaDoorW.PrintMore Kp Mg Mk Rt Tdy Tf Tid Ti Tr Go.Proofs.YtnjdkhnepmmfgaaDoor.Op Ad Lr Gv Bld
/-- The tidy relation with one tape more. -/
def adL (u tp : Nat) (s : Int) (a : List Bool) (b : List (List Int)) : List Bool × List (List Nat) := tidL (wdOf (u + 1)) (rowsA u tp (b.map nats)) a s.toNat (padT (u + 1))
def addR (u tp : Nat) (s : Int) (a : List Bool) (b : List (List Int)) : RRes := toldR ((u + 1 : Nat) : Int) (adL u tp s a b).1 ((adL u tp s a b).2.map ints)
theorem ok_all {u : Nat} {s : Int} {a : List Bool} {b : List (List Int)} (h : okR (u : Int) s a b = true) : s = (s.toNat : Int) ∧ b = (b.map nats).map ints ∧ s.toNat < (b.map nats).length ∧ Closed (wdOf u) (b.map nats) a ∧ (b.map nats).length ≤ 150 ∧ a.length = (b.map nats).length := by
 have hk := okM_ok (Il.ok_tidy h)
 have hc := hk.cl
 rw [Int.toNat_natCast] at hc
 refine ⟨hk.s0, hk.eq, hk.s1, hc, ?_, hc.len.symm⟩
 have := hc.len
 unfold okR at h
 simp only [Bool.and_eq_true, decide_eq_true_eq] at h
 omega
theorem addR_fit {u tp : Nat} (hu : 0 < u ∧ u < 3) (ht : tp ≤ u) {s : Int} {a : List Bool} {b : List (List Int)} (h : okR (u : Int) s a b = true) : Lw.Fit (addR u tp s a b) := by
 obtain ⟨_, _, h3, h4, _, _⟩ := ok_all h
 exact Lw.fit_told (u + 1) (by omega) _ (made_good (made_t (t := u + 1) (by omega) (by rw [rowsA_len]; exact h3) (rowsA_closed hu ht h4))).1
set_option maxHeartbeats 4000000 in
theorem addS (u tp : Nat) (hu : 0 < u ∧ u < 3) (ht : tp ≤ u) (s : Int) (A2 : Option Addr) (c2 : Nat) (a : List Bool) (A3 : Option Addr) (c3 : Nat) (b : List (List Int)) (w : World) (hA : Arg w A2 c2 a A3 c3 b) (hS : Small a b) (hok : okR (u : Int) s a b = true) :
  Calls Tryd.prog 25 #[.agg #[.int .i64 (u : Int), .int .i64 s, .slice A2 a.length c2, .slice A3 b.length c3], .int .i64 (tp : Int)] w (Gives (addR u tp s a b) w) := by
 have hb1 : Below w.heap.size w ((w.alloc (.cells #[.int .i64 (u : Int), .int .i64 s, .slice A2 a.length c2, .slice A3 b.length c3] 27)).alloc (.cells #[.int .i64 0, .int .i64 0, .slice none 0 0, .slice none 0 0] 27)) := below_alloc (below_alloc (Below.refl _ _) _) _
 have hP : Box ((w.alloc (.cells #[.int .i64 (u : Int), .int .i64 s, .slice A2 a.length c2, .slice A3 b.length c3] 27)).alloc (.cells #[.int .i64 0, .int .i64 0, .slice none 0 0, .slice none 0 0] 27)) w.heap.size (u : Int) s A2 a.length c2 A3 b.length c3 := blk_alloc (blk_new _ _) _
 have bZ : ZBox ((w.alloc (.cells #[.int .i64 (u : Int), .int .i64 s, .slice A2 a.length c2, .slice A3 b.length c3] 27)).alloc (.cells #[.int .i64 0, .int .i64 0, .slice none 0 0, .slice none 0 0] 27)) (w.heap.size + 1) := blk_at _ _ _ (by simp)
 have hokq := Aside0.mk (ok_spec w.heap.size (u : Int) s A2 c2 a A3 c3 b _ hP (hA.below hb1) hS)
 rw [hok] at hokq
 have hin := Aside0.mk (in_spec (tp : Int) 0 (u : Int))
 rw [decide_eq_true (show (0 : Int) ≤ (tp : Int) ∧ (tp : Int) ≤ (u : Int) by omega)] at hin
 obtain ⟨h1, h2, h3, h4, h5, h6⟩ := ok_all hok
 have hadd : Aside0 (∀ W, Below ((w.alloc (.cells #[.int .i64 (u : Int), .int .i64 s, .slice A2 a.length c2, .slice A3 b.length c3] 27)).alloc (.cells #[.int .i64 0, .int .i64 0, .slice none 0 0, .slice none 0 0] 27)).heap.size ((w.alloc (.cells #[.int .i64 (u : Int), .int .i64 s, .slice A2 a.length c2, .slice A3 b.length c3] 27)).alloc (.cells #[.int .i64 0, .int .i64 0, .slice none 0 0, .slice none 0 0] 27)) W → Calls Tryd.prog 67 #[.pointer (some ⟨w.heap.size, 0, none⟩), .int .i64 (tp : Int)] W fun e w' => ∃ D2 x2 D3 x3, e = .returned (.agg #[.int .i64 ((u + 1 : Nat) : Int), .int .i64 0, .slice D2 (adL u tp s a b).1.length x2, .slice D3 (adL u tp s a b).2.length x3]) ∧
   Rel w' W.heap.size (fun _ => True) D2 x2 (adL u tp s a b).1 D3 x3 ((adL u tp s a b).2.map ints) ∧ Below W.heap.size W w') := by
  refine ⟨fun W hb => ?_⟩
  have hq := hA.below (below_step hb1 hb)
  have hP2 := blk_below hP hb
  rw [h1, h6, show b.length = (b.map nats).length by rw [List.length_map]] at hP2
  have r2 := hq.r2
  rw [h6] at r2
  have r3 := hq.r3
  rw [h2] at r3
  rw [List.length_map] at r3
  exact Ads.added w.heap.size u (u + 1) tp s.toNat (b.map nats).length hu rfl ht a (b.map nats) h4 h3 rfl (by omega) A2 c2 A3 c3 W hP2 r2 r3
 obtain ⟨u1, hu1⟩ : ∃ x, u + 1 = x := ⟨_, rfl⟩
 obtain ⟨TT, hTT⟩ : ∃ TT, adL u tp s a b = TT := ⟨_, rfl⟩
 have eR : addR u tp s a b = toldR (u1 : Int) TT.1 (TT.2.map ints) := by unfold addR; rw [hTT, hu1]
 rw [eR]
 obtain ⟨RR, hRR⟩ : ∃ RR, toldR (u1 : Int) TT.1 (TT.2.map ints) = RR := ⟨_, rfl⟩
 rw [hRR]
 rw [hTT, hu1] at hadd
 have hRRq := Aside0.mk hRR
 have z1 : ((u : Int) == 3) = false := beq_eq_false_iff_ne.mpr (by omega)
 have z2 : ((u : Int) = 3) = False := eq_false (by omega)
 have m0 : ((w.alloc (.cells #[.int .i64 (u : Int), .int .i64 s, .slice A2 a.length c2, .slice A3 b.length c3] 27)).alloc (.cells #[.int .i64 0, .int .i64 0, .slice none 0 0, .slice none 0 0] 27)).cell? ⟨w.heap.size, 0, none⟩ = some (.int .i64 (u : Int)) := (blk_cell hP 0).trans rfl
 clear hok h1 h2 h3 h4 h5 h6 hTT eR hRR hu1 hS hA
 go_enter Tryd.func25, Tryd.ntmps25
 go_wp2_with (first
  | (go_at_call 65; (with_reducible refine hokq.out.mono ?_); go_loud (
    rintro e w1 ⟨rfl, hb2⟩
    have hB2 := below_step hb1 hb2
    have m1 : w1.cell? ⟨w.heap.size, 0, none⟩ = some (.int .i64 (u : Int)) := (blk_cell (blk_below hP hb2) 0).trans rfl))
  | (go_at_call 66; (with_reducible refine (hin.out w1).mono ?_); go_loud (
    rintro e w2 ⟨rfl, hb3⟩
    have hb23 := below_step hb2 hb3
    have hB3 := below_step hB2 hb3
    have m2 : w2.cell? ⟨w.heap.size, 0, none⟩ = some (.int .i64 (u : Int)) := (blk_cell (blk_below hP hb23) 0).trans rfl))
  | (go_at_call 67; (with_reducible refine (hadd.out w2 hb23).mono ?_); go_loud (
    rintro e w3 ⟨D2, x2, D3, x3, rfl, hRel, hb4⟩
    have hB4 := below_step hB3 hb4
    have hRel' : Rel w3 w.heap.size (fun _ => True) D2 x2 TT.1 D3 x3 (TT.2.map ints) := ⟨Kd.R_lower hRel.1 (Below.size hB3), Kd.S_lower hRel.2 (Below.size hB3)⟩))
  | (go_at_call 55; go_loud (
    have q := told (u1 : Int) TT.1 (TT.2.map ints) w3 D2 x2 D3 x3 w.heap.size (Below.size hB4) w rfl hB4 hRel'
    have q2 := q
    rw [hRRq.out] at q2
    simp only [List.length_map] at q2
    with_reducible refine q2.mono ?_
    rintro e w6 ⟨⟨F2, k2, F3, k3, rfl, hRy, hBy⟩, hb6⟩
    have b0 : ZBox w6 (w.heap.size + 1) := blk_below (blk_below (blk_below bZ hb23) hb4) hb6
    obtain ⟨e0, e1, e2, e3⟩ := box b0
    obtain ⟨f0, f1, f2, f3⟩ := box_open b0)))
 refine bodyPost_ret (results_ct rfl _ _ (w.heap.size + 1) 27 #[.int .i64 RR.t, .int .i64 RR.s, .slice F2 RR.a.length k2, .slice F3 RR.b.length k3] (0, 0) _ rfl (put_box b0) Tryd.underlying27 rfl (by kernel_rfl)) rfl ?_
 exact gives_put hRy b0 hBy (by omega) (Nat.le_refl _)
end Go.Proofs.YtnjdkhnepmmfgaaDoor.Adt
namespace Go.Proofs.YtnjdkhnepmmfgaaDoor.Adc
set_option linter.unusedVariables false
set_option linter.unusedSimpArgs false
open Go Go.RowKit Go.Proofs.YtnjdkhnepmmfgaaDoorW.PrintWords Go.Proofs.YtnjdkhnepmmfgaaDoorW.PrintLast Go.Proofs.YtnjdkhnepmmfgaaDoorW.PrintMore Kp Mg Mk Rt Tdy Tf Tid Ti Tr Go.Proofs.YtnjdkhnepmmfgaaDoor.Op Ad Lr Gv Bld Dfs PC1
def colB (u tp c : Nat) : Bool := decide (impl_columnOf.f 5 (ints ((digs (u + 1) c).eraseIdx tp)) = some ((leftC u tp c : Nat) : Int)) && decide ((digs (u + 1) c).length = u + 1)
theorem col_fin : ((List.range 3).all fun u => u == 0 || (List.range (u + 1)).all fun tp => (List.range (wdOf (u + 1))).all fun c => colB u tp c) = true := by decide +kernel
theorem col_is {u tp c : Nat} (hu : 0 < u ∧ u < 3) (ht : tp ≤ u) (hc : c < wdOf (u + 1)) : impl_columnOf.f 5 (ints ((digs (u + 1) c).eraseIdx tp)) = some ((leftC u tp c : Nat) : Int) ∧ (digs (u + 1) c).length = u + 1 := by
 have h := col_fin
 simp only [List.all_eq_true, List.mem_range, Bool.or_eq_true, beq_iff_eq, colB, Bool.and_eq_true, decide_eq_true_eq] at h
 rcases h u hu.2 with h | h
 ·omega
 ·exact h tp (by omega) c hc
theorem C_range {w : World} {b o : Nat} {xs : List Int} (h : w.rangeAt b o (xs.map (Value.int .i64))) (hl : xs.length ≤ 9223372036854775807) : Kd.C (Kd.int .i64) w (some ⟨b, o, none⟩) xs.length xs := by
 refine ⟨rfl, hl, fun _ => ⟨⟨b, o, none⟩, rfl, fun j p hj => ⟨[.int .i64 p], rfl, rfl, fun i u hu => ?_⟩⟩⟩
 obtain rfl : i = 0 := by
  have := (List.getElem?_eq_some_iff.1 hu).1
  simpa using this
 have e : Value.int .i64 p = u := by simpa using hu
 subst e
 have := h j (.int .i64 p) (by rw [List.getElem?_map, hj]; rfl)
 rw [Addr.add_mid]
 have es : (Kd.int .i64).sz = 1 := rfl
 rwa [es, show o + (j * 1 + 0) = o + j by omega]
theorem below_cells {B g : Nat} (hg : B ≤ g) : ∀ (vs : List Value) (o : Nat) (a w : World), Below B a w → Below B a (w.setCells g o vs)
 | [], _, _, _, h => h
 | v :: r, o, a, w, h => below_cells hg r (o + 1) a _ (h.setCell hg v)
set_option maxHeartbeats 2000000 in
/-- slices.Delete of one number of a row of one's own. -/
theorem del1 (base n c tp : Nat) (A : Option Addr) (l : List Nat) (w0 W : World) (hl : l.length = n) (ht : tp < n) (hR : Kd.R (Kd.int .i64) 3 W base (fun _ => True) (.slice A n c) (ints l)) (hb : Below base w0 W) :
  Calls Tryd.prog 74 #[.slice A n c, .int .i64 (tp : Int), .int .i64 ((tp + 1 : Nat) : Int)] W fun e w' => ∃ A', e = .returned (.slice A' (n - 1) c) ∧ n - 1 ≤ c ∧ Kd.C (Kd.int .i64) w' A' (n - 1) (ints (l.eraseIdx tp)) ∧ Below base w0 w' := by
 have ho := Kd.own_of_R (enc := Value.int .i64) (h1 := fun _ => rfl) hR
 rcases ho.2 with ⟨_, h0⟩ | ⟨g, cap, cur, hv, hg, hcur, hnc, hcm, hsz, htk⟩
 ·rw [ints_length] at h0
  omega
 ·simp only [Value.slice.injEq] at hv
  obtain ⟨rfl, hn', rfl⟩ := hv
  rw [← hn', Nat.mul_one] at htk
  rw [← hn'] at hnc
  rw [Nat.mul_one] at hsz
  have hc : ∀ j, j < (ints l).length → W.cell? ⟨g, 0 + j, none⟩ = some (.int .i64 ((ints l).getD j 0)) := fun j hj => by
   rw [ints_length] at hj
   rw [Nat.zero_add, blk_cell hcur j]
   have e : ((ints l).map (Value.int .i64))[j]? = some (.int .i64 ((ints l).getD j 0)) := by
    rw [List.getElem?_map, List.getD_eq_getElem?_getD, List.getElem?_eq_getElem (by rw [ints_length]; exact hj)]
    rfl
   rw [show (ints l).map (Value.int .i64) = encs (Value.int .i64) (ints l) from rfl, ← htk, List.getElem?_take_of_lt (by omega)] at e
   rw [← e]
   simp
  have hf : ∀ j, j < n → W.frozen? ⟨g, 0 + j, none⟩ = false := fun j _ => blk_frozen hcur _
  refine (Tryd.slices_Delete_int_cells g 0 n c tp (tp + 1) (ints l) W (by rw [ints_length]; omega) hnc (by unfold maxLen at hcm; omega) (by omega) (by omega) hc hf).mono ?_
  rintro e w' ⟨rfl, q, rfl⟩
  have e1 : tp + 1 - tp = 1 := by omega
  have ht1 : (ints l).take n = ints l := List.take_of_length_le (by rw [ints_length]; omega)
  have ee : (ints l).take tp ++ (ints l).drop (tp + 1) = ints (l.eraseIdx tp) := by
   rw [List.eraseIdx_eq_take_drop_succ]
   simp [ints, GwI.ints, List.map_take, List.map_drop]
  rw [e1, ht1, ee]
  have hle : (ints (l.eraseIdx tp)).length = n - 1 := by
   rw [ints_length, List.length_eraseIdx]
   split <;> omega
  refine ⟨_, rfl, by omega, ?_, below_cells hg _ _ _ _ ?_⟩
  ·have hth : (W.drewN q).there g 0 ((ints (l.eraseIdx tp) ++ List.replicate 1 0).map (Value.int .i64)).length := fun j hj => by
    rw [List.length_map, List.length_append, hle, List.length_replicate] at hj
    have := hc j (by rw [ints_length]; omega)
    exact ⟨by rw [show (W.drewN q).cell? _ = W.cell? ⟨g, 0 + j, none⟩ from rfl, this]; rfl, hf j (by omega)⟩
   have hr := World.rangeAt_setCells_same (W.drewN q) g 0 _ hth
   have := C_range (w := (W.drewN q).setCells g 0 ((ints (l.eraseIdx tp) ++ List.replicate 1 0).map (Value.int .i64))) (b := g) (o := 0) (xs := ints (l.eraseIdx tp)) (fun j v hj => hr j v (by
    rw [List.map_append, List.getElem?_append_left (List.getElem?_eq_some_iff.1 hj).1]
    exact hj)) (by rw [hle]; unfold maxLen at hcm; omega)
   rwa [hle] at this
  ·exact pw_below_drewN hb q
set_option maxHeartbeats 2000000 in
theorem add1 (ga base n c tp : Nat) (A : Option Addr) (l : List Nat) (w0 W : World) (hl : l.length = n) (ht : tp < n) (hn : n ≤ 10) (hR : Kd.R (Kd.int .i64) 3 W base (fun _ => True) (.slice A n c) (ints l)) (hb : Below base w0 W) (hg : W.cell? ⟨ga, 0, none⟩ = some (.int .i64 (tp : Int))) :
  Calls Tryd.prog 73 #[.slice A n c, .pointer (some ⟨ga, 0, none⟩)] W fun e w' => ∃ A', e = .returned (.slice A' (n - 1) c) ∧ n - 1 ≤ c ∧ Kd.C (Kd.int .i64) w' A' (n - 1) (ints (l.eraseIdx tp)) ∧ Below base w0 w' := by
 have hd := Aside0.mk (del1 base n c tp A l w0 W hl ht hR hb)
 have h1 : Aside0 ((tp : Int) + 1 = ((tp + 1 : Nat) : Int)) := ⟨by omega⟩
 clear hR hb
 go_enter Tryd.func73, Tryd.ntmps73
 go_wp2_with (go_at_call 74; go_loud (
  rw [h1.out]
  with_reducible refine hd.out.mono ?_
  rintro e w' ⟨A', rfl, hc, hC, hb'⟩))
 go_ret
 exact ⟨_, rfl, hc, hC, hb'⟩
end Go.Proofs.YtnjdkhnepmmfgaaDoor.Adc
namespace Go.Proofs.YtnjdkhnepmmfgaaDoor.GwQ
set_option linter.unusedVariables false
set_option linter.unusedSimpArgs false
open GwP (info_int info_bool info_ints ents_snoc ents_length encP_inj ents_hit ents_miss bfs_pre kP_M Pl encP kP I64 Fit ints ents take_row at_P)
open Go Go.Maps Go.RowKit Go.Proofs.YtnjdkhnepmmfgaaDoorW.PrintWords Go.Proofs.YtnjdkhnepmmfgaaDoorW.PrintLast Go.Proofs.YtnjdkhnepmmfgaaDoorW.PrintMore Mp Kp Ky Fv Tdy
theorem pair_law : Keyed Tryd.prog 144 := Keyed.of_law (deep_law_laid laid (m := 9) (by omega) (by decide +kernel) (by kernel_rfl) (by kernel_rfl))
theorem pair_key {a b : Int} (ha : -9223372036854775808 ≤ a ∧ a ≤ 9223372036854775807) (hb : -9223372036854775808 ≤ b ∧ b ≤ 9223372036854775807) :
  ∃ kl, keyOf Tryd.prog 144 (.agg #[.int .i64 a, .int .i64 b]) = some kl := by
 have h1 : Tryd.prog.keyType 144 = true := by kernel_rfl
 have h2 : Tryd.prog.cellsOf 144 = 2 := by kernel_rfl
 have h3 : ∃ m, Tryd.prog.types.size = m + 1 := ⟨Tryd.prog.types.size - 1, by decide +kernel⟩
 obtain ⟨m, hm⟩ := h3
 refine ⟨.string (keyBytes [.int .i64 a, .int .i64 b]), ?_⟩
 unfold keyOf
 simp only [Tryd.underlying144]
 rw [if_pos (by simp [h1, Value.formed, Tryd.underlying144, h2]), hm]
 unfold Program.keyLits
 simp only [Tryd.underlying144, Value.cells]
 have c3 : Tryd.prog.cellsOf 3 = 1 := by kernel_rfl
 have r2 : List.range 2 = [0, 1] := rfl
 simp [Program.keyLits, Tryd.underlying3, wf64 ha, wf64 hb, c3, h2, r2]
theorem info_pair : (Tryd.prog.info? 144).map (fun i => (i.zero, i.size, i.bytes)) = some (some (.agg #[.int .i64 0, .int .i64 0]), 2, 16) := by kernel_rfl
/-- What stands in memory between two rounds; x: the block of the row that is being made. -/
structure G (w0 : World) (tapes : Nat) (s : Pl) (bs : List Bool) (em : List (Value × Value)) (li : List Pl) (rws : List (List Nat)) (ok : Nat → Prop) (x : Option Nat) (vL vA vN : Value) (W : World) : Prop where
 b0 : W.heap[w0.heap.size]? = some (.cells #[.int .i64 s.1, .int .i64 s.2] 144 (0, 0))
 b1 : W.heap[w0.heap.size + 1]? = some (.cells #[.int .i64 0, .int .i64 0, .slice none 0 0, .slice none 0 0] 66 (0, 0))
 b2 : W.heap[w0.heap.size + 2]? = some (.cells #[.int .i64 tapes, .int .i64 0, vA, vN] 66 (0, 0))
 acc : Kd.R Kd.bool 4 W w0.heap.size (fun _ => True) vA bs
 nxt : Kd.R (Kd.slice 3 (Kd.int .i64)) 87 W w0.heap.size (fun k => True ∧ some k ≠ x) vN (rws.map ints)
 map : FMap Tryd.prog 144 W (w0.heap.size + 3) em
 lst : kP.R 144 W w0.heap.size (fun k => ok k ∧ k ≠ w0.heap.size) vL li
 bel : Below w0.heap.size w0 W
section
variable {w0 : World} {tapes : Nat} {s : Pl} {bs : List Bool} {em : List (Value × Value)} {li : List Pl} {rws : List (List Nat)} {ok : Nat → Prop} {x : Option Nat} {vL vA vN : Value} {W W' : World}
theorem G.lt (h : G w0 tapes s bs em li rws ok x vL vA vN W) : w0.heap.size + 3 < W.heap.size := h.map.lt
/-- A call, a new block, a draw. -/
theorem G.step (h : G w0 tapes s bs em li rws ok x vL vA vN W) (hb : Below W.heap.size W W') : G w0 tapes s bs em li rws ok x vL vA vN W' :=
 ⟨blk_below h.b0 hb, blk_below h.b1 hb, blk_below h.b2 hb, Kd.R_below h.acc hb, Kd.R_below h.nxt hb, map_keep h.map (Keep.below hb) (by simp), Kd.R_below h.lst hb, below_step h.bel hb⟩
/-- A new block for a state. -/
theorem G.enter (h : G w0 tapes s bs em li rws ok x vL vA vN W) (o : Obj) : G w0 tapes s bs em li rws (fun k => k ≠ W.heap.size) x vL vA vN (W.alloc o) :=
 let g := h.step (below_alloc (Below.refl _ _) o)
 ⟨g.b0, g.b1, g.b2, g.acc, g.nxt, g.map, Kd.R_mono (Kd.R_below (Kd.R_bound h.lst) (below_alloc (Below.refl _ _) o)) (fun k hk => ⟨by have := hk.2.2.1; omega, hk.1.2⟩), g.bel⟩
/-- An entry is put into the map. -/
theorem G.put (h : G w0 tapes s bs em li rws ok x vL vA vN W) {em' : List (Value × Value)} (hg : W.grownBy W' (some (w0.heap.size + 3))) (hF : FMap Tryd.prog 144 W' (w0.heap.size + 3) em') : G w0 tapes s bs em' li rws ok x vL vA vN W' := by
 have hk := Keep.grown hg
 have hlt := h.lt
 exact ⟨hk.obj h.b0 (by simp), hk.obj h.b1 (by simp), hk.obj h.b2 (by simp), R_off h.acc hk (Off.map h.map _), R_off h.nxt hk (Off.map h.map _), hF, R_off h.lst hk (Off.map h.map _), h.bel.grown hg (by omega) (fun k hk => by cases hk; omega)⟩
/-- The list gets one more. -/
theorem G.push (h : G w0 tapes s bs em li rws ok x vL vA vN W) {v1 : Value} {k : Pl} (hg : W.grownBy W' vL.ownBlock) (hR : kP.R 144 W' w0.heap.size (fun k => ok k ∧ k ≠ w0.heap.size) v1 (li ++ [k])) (hb : Below w0.heap.size w0 W') : G w0 tapes s bs em (li ++ [k]) rws ok x v1 vA vN W' := by
 have hk := Keep.grown hg
 exact ⟨hk.obj h.b0 (fun e => (h.lst.1 _ e.symm).2 rfl), hk.obj h.b1 (off_ne h.b1 (Off.row h.lst (by decide))), hk.obj h.b2 (off_ne h.b2 (Off.row h.lst (by decide))), R_off h.acc hk (Off.row h.lst (by decide)), R_off h.nxt hk (Off.row h.lst (by decide)), map_keep h.map hk (map_row_ne h.map h.lst), hR, hb⟩
/-- The row that is being made gets one more. -/
theorem G.more {v v1 : Value} {r : List Int} {o1 : Nat → Prop} (h : G w0 tapes s bs em li rws ok v.ownBlock vL vA vN W) (hr : Kd.R (Kd.int .i64) 3 W w0.heap.size o1 v r) (hg : W.grownBy W' v.ownBlock) (hat : v1.ownBlock = v.ownBlock ∨ ∃ b, v1.ownBlock = some b ∧ W.heap.size ≤ b) (hb : Below w0.heap.size w0 W') : G w0 tapes s bs em li rws ok v1.ownBlock vL vA vN W' := by
 have hk := Keep.grown hg
 exact ⟨hk.obj h.b0 (off_ne h.b0 (Off.row hr (by decide))), hk.obj h.b1 (off_ne h.b1 (Off.row hr (by decide))), hk.obj h.b2 (off_ne h.b2 (Off.row hr (by decide))), R_off h.acc hk (Off.row hr (by decide)), Kd.R_after h.nxt hg hat, map_keep h.map hk (map_row_ne h.map hr), R_off h.lst hk (Off.row hr (by decide)), hb⟩
end
/-- .. and while a row is made: the state's own block gK, the row. -/
structure H (w0 : World) (tapes : Nat) (s : Pl) (bs : List Bool) (em : List (Value × Value)) (li : List Pl) (rws : List (List Nat)) (gK : Nat) (k : Pl) (r : List Nat) (vr vL vA vN : Value) (W : World) : Prop where
 g : G w0 tapes s bs em li rws (fun j => j ≠ gK) vr.ownBlock vL vA vN W
 bK : W.heap[gK]? = some (.cells #[.int .i64 k.1, .int .i64 k.2] 144 (0, 0))
 row : Kd.R (Kd.int .i64) 3 W w0.heap.size (fun _ => True) vr (ints r)
section
variable {w0 : World} {tapes : Nat} {s : Pl} {bs : List Bool} {em : List (Value × Value)} {li : List Pl} {rws : List (List Nat)} {gK : Nat} {k : Pl} {r : List Nat} {vr vL vA vN : Value} {W W' : World}
theorem H.step (h : H w0 tapes s bs em li rws gK k r vr vL vA vN W) (hb : Below W.heap.size W W') : H w0 tapes s bs em li rws gK k r vr vL vA vN W' := ⟨h.g.step hb, blk_below h.bK hb, Kd.R_below h.row hb⟩
theorem H.put (h : H w0 tapes s bs em li rws gK k r vr vL vA vN W) {em' : List (Value × Value)} (hg : W.grownBy W' (some (w0.heap.size + 3))) (hF : FMap Tryd.prog 144 W' (w0.heap.size + 3) em') : H w0 tapes s bs em' li rws gK k r vr vL vA vN W' :=
 ⟨h.g.put hg hF, (Keep.grown hg).obj h.bK (fun e => map_ne h.g.map h.bK (Option.some.inj e).symm), R_off h.row (Keep.grown hg) (Off.map h.g.map _)⟩
theorem H.push (h : H w0 tapes s bs em li rws gK k r vr vL vA vN W) {v1 : Value} {p : Pl} (hg : W.grownBy W' vL.ownBlock) (hR : kP.R 144 W' w0.heap.size (fun j => j ≠ gK ∧ j ≠ w0.heap.size) v1 (li ++ [p])) (hb : Below w0.heap.size w0 W') : H w0 tapes s bs em (li ++ [p]) rws gK k r vr v1 vA vN W' :=
 ⟨h.g.push hg hR hb, (Keep.grown hg).obj h.bK (fun e => (h.g.lst.1 _ e.symm).1 rfl), R_off h.row (Keep.grown hg) (Off.row h.g.lst (by decide))⟩
theorem H.more (h : H w0 tapes s bs em li rws gK k r vr vL vA vN W) {v1 : Value} {j : Nat} (hg : W.grownBy W' vr.ownBlock) (hat : v1.ownBlock = vr.ownBlock ∨ ∃ b, v1.ownBlock = some b ∧ W.heap.size ≤ b) (hR : Kd.R (Kd.int .i64) 3 W' w0.heap.size (fun _ => True) v1 (ints r ++ [(j : Int)])) (hb : Below w0.heap.size w0 W') : H w0 tapes s bs em li rws gK k (r ++ [j]) v1 vL vA vN W' :=
 ⟨h.g.more h.row hg hat hb, (Keep.grown hg).obj h.bK (off_ne h.bK (Off.row h.row (by decide))), by simpa [ints] using hR⟩
/-- The state's mark is put behind the others. -/
theorem H.acc (h : H w0 tapes s bs em li rws gK k r vr vL vA vN W) {v1 : Value} {bs' : List Bool} (hg : W.grownBy W' vA.ownBlock) (hR : Kd.R Kd.bool 4 W' w0.heap.size (fun _ => True) v1 bs') (hb : Below w0.heap.size w0 W') :
  W'.heap[w0.heap.size + 2]? = some (.cells #[.int .i64 tapes, .int .i64 0, vA, vN] 66 (0, 0)) ∧ W'.heap[gK]? = some (.cells #[.int .i64 k.1, .int .i64 k.2] 144 (0, 0)) ∧
   H w0 tapes s bs' em li rws gK k r vr vL v1 vN (W'.setCell ⟨w0.heap.size + 2, 2, none⟩ v1) := by
 have hk := Keep.grown hg
 have o : ∀ E : List Nat, (∀ q ∈ E, q ≠ 4) → Off W vA.ownBlock E := fun E hE => Off.row h.g.acc hE
 have b2 := hk.obj h.g.b2 (off_ne h.g.b2 (o _ (by decide)))
 have bK := hk.obj h.bK (off_ne h.bK (o _ (by decide)))
 refine ⟨b2, bK, ?_⟩
 have hs := Keep.set W' ⟨w0.heap.size + 2, 2, none⟩ v1
 have p : ∀ E : List Nat, (∀ q ∈ E, q ≠ 66) → Off W' (some (w0.heap.size + 2)) E := fun E hE => Off.cells b2 hE
 have m := map_keep h.g.map hk (map_row_ne h.g.map h.g.acc)
 exact ⟨⟨hs.obj (hk.obj h.g.b0 (off_ne h.g.b0 (o _ (by decide)))) (by simp), hs.obj (hk.obj h.g.b1 (off_ne h.g.b1 (o _ (by decide)))) (by simp), blk_put b2 2 v1 rfl, R_off hR hs (p _ (by decide)), R_off (R_off h.g.nxt hk (o _ (by decide))) hs (p _ (by decide)), map_keep m hs (by simp), R_off (R_off h.g.lst hk (o _ (by decide))) hs (p _ (by decide)), hb.setCell (by simp) _⟩,
  hs.obj bK (fun e => blk_ne bK b2 (by decide) (Option.some.inj e)), R_off (R_off h.row hk (o _ (by decide))) hs (p _ (by decide))⟩
/-- The row is put behind the others. -/
theorem H.nxt (h : H w0 tapes s bs em li rws gK k r vr vL vA vN W) {v1 : Value} (hg : W.grownBy W' vN.ownBlock) (hR : Kd.R (Kd.slice 3 (Kd.int .i64)) 87 W' w0.heap.size (fun _ => True) v1 (rws.map ints ++ [ints r])) (hb : Below w0.heap.size w0 W') :
  W'.heap[w0.heap.size + 2]? = some (.cells #[.int .i64 tapes, .int .i64 0, vA, vN] 66 (0, 0)) ∧ G w0 tapes s bs em li (rws ++ [r]) (fun _ => True) none vL vA v1 (W'.setCell ⟨w0.heap.size + 2, 3, none⟩ v1) := by
 have hk := Keep.grown hg
 have o : ∀ E : List Nat, (∀ q ∈ E, q ≠ 87) → Off W vN.ownBlock E := fun E hE => Off.row h.g.nxt hE
 have b2 := hk.obj h.g.b2 (off_ne h.g.b2 (o _ (by decide)))
 refine ⟨b2, ?_⟩
 have hs := Keep.set W' ⟨w0.heap.size + 2, 3, none⟩ v1
 have p : ∀ E : List Nat, (∀ q ∈ E, q ≠ 66) → Off W' (some (w0.heap.size + 2)) E := fun E hE => Off.cells b2 hE
 have m := map_keep h.g.map hk (map_row_ne h.g.map h.g.nxt)
 exact ⟨hs.obj (hk.obj h.g.b0 (off_ne h.g.b0 (o _ (by decide)))) (by simp), hs.obj (hk.obj h.g.b1 (off_ne h.g.b1 (o _ (by decide)))) (by simp), blk_put b2 3 v1 rfl, R_off (R_off h.g.acc hk (o _ (by decide))) hs (p _ (by decide)), Kd.R_mono (R_off (by simpa using hR) hs (p _ (by decide))) (fun _ _ => ⟨trivial, by simp⟩), map_keep m hs (by simp), Kd.R_mono (R_off (R_off h.g.lst hk (o _ (by decide))) hs (p _ (by decide))) (fun _ hk => ⟨trivial, hk.2⟩), hb.setCell (by simp) _⟩
end
set_option maxHeartbeats 8000000 in
set_option maxRecDepth 100000 in
theorem grow (tapes : Nat) (start : Pl) (fa fx : Value) (acc : Pl → Bool) (nxt : Pl → Nat → Pl) (w : World) (wd : Nat) (hwd2 : wd ≤ 30)
  (hwd : ∀ W, Calls Tryd.prog 94 #[.int .i64 tapes] W fun e W' => e = .returned (.int .i64 wd) ∧ Below W.heap.size W W')
  (Q : Pl → Prop) (hQ0 : Q start) (hQf : ∀ k, Q k → Fit k) (hQn : ∀ k c, Q k → c < wd → Q (nxt k c))
  (hacc : ∀ k, Q k → Answers Tryd.prog w fa #[encP k] (.bool (acc k))) (hnxt : ∀ k c, Q k → c < wd → Answers Tryd.prog w fx #[encP k, .int .i64 (c : Int)] (encP (nxt k c)))
  (f : Nat) (l : List Pl) (rows : List (List Nat)) (hr : bfs id nxt (List.range wd) 0 f 0 [start] [] = some (some (l, rows))) (hl : l.length ≤ 2000000) :
  Calls Tryd.prog 120 #[.int .i64 tapes, encP start, .int .i64 0, fa, fx] w fun e w' => ∃ vA vN, e = .returned (.tuple #[.agg #[.int .i64 tapes, .int .i64 0, vA, vN], .bool true]) ∧
   Kd.R Kd.bool 4 w' w.heap.size (fun _ => True) vA (l.map acc) ∧ Kd.R (Kd.slice 3 (Kd.int .i64)) 87 w' w.heap.size (fun _ => True) vN (rows.map ints) ∧ Below w.heap.size w w' := by
 have hmm := @run_makeMap Tryd.prog
 obtain ⟨s1, s2⟩ := start
 obtain ⟨kl0, hk0⟩ := pair_key (hQf _ hQ0).1 (hQf _ hQ0).2
 unfold encP
 go_enter Tryd.func120, Tryd.ntmps120
 go_wp2_with ((with_reducible refine gate_insert rfl ?_); (refine at_put (b := w.heap.size + 3) (es := []) ?hF pair_law rfl _ _ _ 148 3 (Or.inr rfl) Tryd.underlying148 (by decide) rfl _ (.int .i64 0) hk0 rfl rfl (fun p hp => by cases hp) ?hKk; (case hF => exact FMap.of_empty (blk_at _ _ _ (by simp))); intro w1 hF hg; have hK := Keep.grown hg; have b0 : w1.heap[w.heap.size]? = some (.cells #[.int .i64 s1, .int .i64 s2] 144 (0, 0)) := hK.obj (blk_alloc (blk_alloc (blk_alloc (blk_new _ _) _) _) _) (by simp); have b1 : w1.heap[w.heap.size + 1]? = some (.cells #[.int .i64 0, .int .i64 0, .slice none 0 0, .slice none 0 0] 66 (0, 0)) := hK.obj (blk_alloc (blk_alloc (blk_at _ _ _ (by simp)) _) _) (by simp); have b2 : w1.heap[w.heap.size + 2]? = some (.cells #[.int .i64 tapes, .int .i64 0, .slice none 0 0, .slice none 0 0] 66 (0, 0)) := hK.obj (blk_alloc (blk_at _ _ _ (by simp)) _) (by simp); have c0 := blk_cell b0 0; have c1 := blk_cell b0 1; simp only [List.getElem?_toArray, List.getElem?_cons_zero, List.getElem?_cons_succ] at c0 c1))
 have hbe : Below w.heap.size w w1 := (below_alloc (below_alloc (below_alloc (below_alloc (Below.refl _ _) _) _) _) _).grown hg (by simp <;> omega) (fun k hk => by cases hk; omega)
 have hlt1 : w.heap.size + 3 < w1.heap.size := hF.lt
 have g1 : G w tapes (s1, s2) [] (ents [(s1, s2)]) [(s1, s2)] [] (fun _ => True) none (.slice (some ⟨w1.heap.size, 0, none⟩) 1 1) (.slice none 0 0) (.slice none 0 0) (w1.alloc (.cells #[.int .i64 s1, .int .i64 s2] 144)) := by
  refine ⟨blk_alloc b0 _, blk_alloc b1 _, blk_alloc b2 _, Kd.R_nil _ _ _ _ _, Kd.R_nil _ _ _ _ _, map_keep hF (Keep.below (below_alloc (Below.refl _ _) _)) (by simp), ?_, below_alloc hbe _⟩
  exact R_one kP _ w1 _ (by omega) (kP_M w1 w.heap.size (fun _ => False) (s1, s2)) (fun _ h => h.elim) ⟨trivial, by omega⟩
 clear hF hg hK b0 b1 b2 c0 c1 hbe
 go_loopg [14, 15] f (fun kf v14 v15 wr => ∃ (i : Nat) (li : List Pl) (rws : List (List Nat)) (AL : Option Addr) (cL : Nat) (vA vN : Value), v14 = .slice AL li.length cL ∧ v15 = .int .i64 (i : Int) ∧ Aside0 (bfs id nxt (List.range wd) 0 kf i li rws = some (some (l, rows))) ∧ Aside0 (rws.length = i) ∧ i ≤ li.length ∧ Aside0 (∀ k ∈ li, Q k) ∧ Aside0 (G w tapes (s1, s2) ((li.take i).map acc) (ents li) li rws (fun _ => True) none (.slice AL li.length cL) vA vN wr))
 case atStart => exact ⟨0, [(s1, s2)], [], _, _, _, _, rfl, rfl, ⟨hr⟩, ⟨rfl⟩, Nat.zero_le _, ⟨fun k hk => by rw [List.mem_singleton.1 hk]; exact hQ0⟩, ⟨g1⟩⟩
 case round =>
  clear g1
  obtain ⟨wo, rfl⟩ : ∃ wo : World, wo = wr := ⟨_, rfl⟩
  obtain ⟨i, li, rws, AL, cL, vA, vN, rfl, rfl, H, hrl, hil, hQl, g⟩ := hrel
  have hli : li.length ≤ 2000000 := by obtain ⟨m, hm⟩ := bfs_pre _ _ _ _ _ _ H.out; rw [hm, List.length_append] at hl; omega
  by_cases hlt : i < li.length
  ·cases gk with
   | zero => exact absurd H.out (by simp [bfs])
   | succ kf =>
   have H1 := H.out
   unfold bfs at H1
   rw [dif_pos hlt, if_neg (by omega)] at H1
   have HH := Aside0.mk H1
   clear H1 H
   obtain ⟨rl, _, hC⟩ := Kd.R_reads' g.out.lst
   obtain ⟨ad, rfl, k0, k1⟩ := at_P hC i hlt rfl
   have hQk : Aside0 (Q li[i]) := ⟨hQl.out _ (List.getElem_mem hlt)⟩
   have htr := Aside0.mk (take_row (nxt := nxt) (cs := List.range wd) hlt)
   clear hC rl
   generalize hk : li[i] = k at *
   have HK := Aside0.mk hk
   clear hk
   have hlt1 : ((i : Int) < (li.length : Int)) = True := eq_true (by omega)
   have h0i : (0 ≤ (i : Int)) = True := eq_true (by omega)
   go_wp2_with fail
   have h0 : H w tapes (s1, s2) ((li.take i).map acc) (ents li) li rws wo.heap.size k [] (.slice none 0 0) (.slice (some ad) li.length cL) vA vN (wo.alloc (.cells #[.int .i64 k.1, .int .i64 k.2] 144)) := ⟨g.out.enter _, blk_new _ _, Kd.R_nil _ _ _ _ _⟩
   clear k0 k1 g
   go_loopg [14, 17, 18] wd (fun kq v14 v17 v18 wq => ∃ (c : Nat) (lj : List Pl) (r : List Nat) (A' : Option Addr) (c' : Nat) (Ar : Option Addr) (cr : Nat), v14 = .slice A' lj.length c' ∧ v17 = .slice Ar r.length cr ∧ v18 = .int .i64 (c : Int) ∧ c ≤ wd ∧ Aside0 (kq = wd - c) ∧ Aside0 (r.length = c) ∧ Aside0 ((row id nxt k ((List.range wd).drop c) lj).1 = (row id nxt k (List.range wd) li).1 ∧ r ++ (row id nxt k ((List.range wd).drop c) lj).2 = (row id nxt k (List.range wd) li).2) ∧ Aside0 (∀ k ∈ lj, Q k) ∧ Aside0 (H w tapes (s1, s2) ((li.take i).map acc) (ents lj) lj rws wo.heap.size k r (.slice Ar r.length cr) (.slice A' lj.length c') vA vN wq))
   case atStart => exact ⟨0, li, [], _, _, none, 0, rfl, rfl, rfl, Nat.zero_le _, ⟨by simp⟩, ⟨rfl⟩, ⟨by simp⟩, ⟨hQl.out⟩, ⟨h0⟩⟩
   case round =>
    clear h0
    obtain ⟨c, lj, r, A', c', Ar, cr, rfl, rfl, rfl, hcw, hkq, hrc, HR, hQj, h⟩ := hrel
    replace h := h.out
    by_cases hc : c < wd
    ·have hd : (List.range wd).drop c = c :: (List.range wd).drop (c + 1) := by
      rw [List.drop_eq_getElem_cons (by simpa using hc)]; simp
     have HR1 := HR.out
     rw [hd] at HR1
     clear HR hd
     obtain ⟨f2, fn2, cap2, rfl, hfn, hnm, hbd, hcall⟩ := hnxt k c hQk.out hc
     have hQt := hQn k c hQk.out hc
     have hlj : lj.length ≤ 2000000 ∧ (find id (nxt k c) lj = none → lj.length + 1 ≤ 2000000) := by
      obtain ⟨m, hm⟩ := bfs_pre _ _ _ _ _ _ HH.out
      rw [← HR1.1] at hm
      refine ⟨?_, fun hn => ?_⟩
      ·obtain ⟨m', hm'⟩ := row_prefix (key := id) (nxt := nxt) (s := k) (c :: (List.range wd).drop (c + 1)) lj
       rw [hm, hm', List.length_append, List.length_append] at hl
       omega
      ·rw [row_none hn] at hm
       obtain ⟨m', hm'⟩ := row_prefix (key := id) (nxt := nxt) (s := k) ((List.range wd).drop (c + 1)) (lj ++ [nxt k c])
       rw [hm, hm', List.length_append, List.length_append, List.length_append, List.length_singleton] at hl
       omega
     have hlt2 : ((c : Int) < (wd : Int)) = True := eq_true (by omega)
     cases hf : find id (nxt k c) lj with
     | some j =>
      rw [row_some hf] at HR1
      have HR := Aside0.mk HR1
      clear HR1
      have hjm := ents_hit hf
      have hjl := (find_some hf).1
      clear hf
      generalize nxt k c = tt at *
      obtain ⟨t1, t2⟩ := tt
      have hlj1 := hlj.1
      clear hlj
      unfold encP at hcall hjm
      go_wp2_with (first
       | (go_at_call 94; (with_reducible refine (hwd _).mono ?_); rintro e w2 ⟨rfl, hb2⟩; have h2 := h.step hb2; have c20 : w2.cell? ⟨wo.heap.size, 0, none⟩ = some (.int .i64 k.1) := (blk_cell h2.bK 0).trans rfl; have c21 : w2.cell? ⟨wo.heap.size, 1, none⟩ = some (.int .i64 k.2) := (blk_cell h2.bK 1).trans rfl)
       | ((with_reducible refine gate_dst (N := 48) rfl ?_); (refine goesV_ (some 48) rfl rfl hfn hnm hbd #[.agg #[.int .i64 k.1, .int .i64 k.2], .int .i64 (c : Int)] rfl rfl (by simp only [List.map_toArray, List.map_cons, List.map_nil]; rfl) ?_; (with_reducible refine (hcall _ h2.g.bel).mono ?_); rintro e w3 ⟨rfl, hb3⟩; refine ⟨_, rfl, ?_⟩; have h3 := h2.step hb3; have h4 := h3.step (below_alloc (Below.refl _ _) (.cells #[.int .i64 t1, .int .i64 t2] 144))))
       | ((with_reducible refine gate_dst (N := 52) rfl ?_); (refine at_hit h4.g.map pair_law rfl _ _ 148 3 rfl Tryd.underlying148 (zero_int _) rfl _ _ rfl hjm ?_))
       | ((with_reducible refine gate_builtin (b := .append) (xs := #[.tmp 75, .tmp 77]) rfl ?_); at_builtin; (refine R_append' (Kd.int .i64) (w0 := w) w.heap.size rfl (.tmp 75) (.tmp 77) 87 3 (.int .i64 0) 8 rfl Tryd.underlying87 info_int rfl (by decide) (by decide) (.slice Ar r.length cr) (ints r) (j : Int) [.int .i64 (j : Int)] (fun _ => True) (fun _ => False) _ (by simp) rfl rfl rfl (fun _ h => h.elim) (fun _ _ => trivial) h4.row h4.g.bel (Below.size h4.g.bel) (by have := hrc.out; simp [ints]; omega) ?_; intro v1 w5 hR5 hb5 hg5 hat5; obtain ⟨A1, c1, hv1⟩ := Kd.R_slice hR5; have ev : (ints r ++ [(j : Int)]).length = (r ++ [j]).length := (by simp [ints]); rw [ev] at hv1; subst hv1; have h5 := h4.more hg5 hat5 hR5 hb5)))
      go_roundg (wd - (c + 1))
      case measure => have := hkq.out; omega
      case rel => exact ⟨c + 1, lj, r ++ [j], A', c', A1, c1, rfl, (by simp), (by go_num), by omega, ⟨rfl⟩, ⟨by have := hrc.out; simp; omega⟩, ⟨HR.out.1, by rw [List.append_assoc]; exact HR.out.2⟩, hQj, ⟨h5⟩⟩
     | none =>
      rw [row_none hf] at HR1
      have HR := Aside0.mk HR1
      clear HR1
      have hmiss := ents_miss hf
      have hlj1 := hlj.2 hf
      clear hf hlj
      generalize nxt k c = tt at *
      obtain ⟨t1, t2⟩ := tt
      obtain ⟨klt, hkt⟩ := pair_key (hQf _ hQt).1 (hQf _ hQt).2
      unfold encP at hcall
      go_wp2_with (first
       | (go_at_call 94; (with_reducible refine (hwd _).mono ?_); rintro e w2 ⟨rfl, hb2⟩; have h2 := h.step hb2; have c20 : w2.cell? ⟨wo.heap.size, 0, none⟩ = some (.int .i64 k.1) := (blk_cell h2.bK 0).trans rfl; have c21 : w2.cell? ⟨wo.heap.size, 1, none⟩ = some (.int .i64 k.2) := (blk_cell h2.bK 1).trans rfl)
       | ((with_reducible refine gate_dst (N := 48) rfl ?_); (refine goesV_ (some 48) rfl rfl hfn hnm hbd #[.agg #[.int .i64 k.1, .int .i64 k.2], .int .i64 (c : Int)] rfl rfl (by simp only [List.map_toArray, List.map_cons, List.map_nil]; rfl) ?_; (with_reducible refine (hcall _ h2.g.bel).mono ?_); rintro e w3 ⟨rfl, hb3⟩; refine ⟨_, rfl, ?_⟩; have h3 := h2.step hb3; have h4 := h3.step (below_alloc (Below.refl _ _) (.cells #[.int .i64 t1, .int .i64 t2] 144))))
       | ((with_reducible refine gate_dst (N := 52) rfl ?_); refine at_miss h4.g.map pair_law rfl _ _ 148 3 rfl Tryd.underlying148 (zero_int _) rfl _ hkt rfl hmiss ?_)
       | (at_mapUpdate; refine at_put h4.g.map pair_law rfl _ _ _ 148 3 (Or.inl rfl) Tryd.underlying148 (by rw [ents_length]; unfold maxLen; omega) rfl _ (.int .i64 (lj.length : Int)) hkt rfl rfl hmiss ?_; intro w5 hF5 hg5; have hF6 : FMap Tryd.prog 144 w5 (w.heap.size + 3) (ents (lj ++ [(t1, t2)])) := (by rw [ents_snoc]; exact hF5); clear hF5; have h5 := h4.put hg5 hF6; have bt := (Keep.grown hg5).obj (blk_new w3 (.cells #[.int .i64 t1, .int .i64 t2] 144)) (by have := h3.g.lt; simp; omega); have ct0 : w5.cell? ⟨w3.heap.size, 0, none⟩ = some (.int .i64 t1) := (blk_cell bt 0).trans rfl; have ct1 : w5.cell? ⟨w3.heap.size, 1, none⟩ = some (.int .i64 t2) := (blk_cell bt 1).trans rfl)
       | ((with_reducible refine gate_builtin (b := .append) (xs := #[.tmp 62, .tmp 64]) rfl ?_); at_builtin; refine R_append' kP (w0 := w) w.heap.size rfl (.tmp 62) (.tmp 64) 149 144 (.agg #[.int .i64 0, .int .i64 0]) 16 rfl Tryd.underlying149 info_pair rfl (by decide) (by decide) (.slice A' lj.length c') lj (t1, t2) [.int .i64 t1, .int .i64 t2] (fun j => j ≠ wo.heap.size ∧ j ≠ w.heap.size) (fun _ => False) _ (by simp) rfl rfl (kP_M _ _ _ _) (fun _ h => h.elim) (fun k hk => ⟨by have := blk_lt h5.bK; omega, by have := h5.g.lt; omega⟩) h5.g.lst h5.g.bel (Below.size h5.g.bel) (by omega) ?_; intro v6 w6 hR6 hb6 hg6 hat6; obtain ⟨A6, c6, hv6⟩ := Kd.R_slice hR6; subst hv6; have h6 := h5.push hg6 hR6 hb6; rw [List.length_append, List.length_singleton])
       | ((with_reducible refine gate_builtin (b := .append) (xs := #[.tmp 75, .tmp 77]) rfl ?_); at_builtin; refine R_append' (Kd.int .i64) (w0 := w) w.heap.size rfl (.tmp 75) (.tmp 77) 87 3 (.int .i64 0) 8 rfl Tryd.underlying87 info_int rfl (by decide) (by decide) (.slice Ar r.length cr) (ints r) (lj.length : Int) [.int .i64 (lj.length : Int)] (fun _ => True) (fun _ => False) _ (by simp) rfl rfl rfl (fun _ h => h.elim) (fun _ _ => trivial) h6.row h6.g.bel (Below.size h6.g.bel) (by have := hrc.out; simp [ints]; omega) ?_; intro v1 w7 hR7 hb7 hg7 hat7; obtain ⟨A1, c1, hv1⟩ := Kd.R_slice hR7; have ev : (ints r ++ [(lj.length : Int)]).length = (r ++ [lj.length]).length := (by simp [ints]); rw [ev] at hv1; subst hv1; have h7 := h6.more hg7 hat7 hR7 hb7))
      go_roundg (wd - (c + 1))
      case measure => have := hkq.out; omega
      case rel => exact ⟨c + 1, lj ++ [(t1, t2)], r ++ [lj.length], A6, c6, A1, c1, (by simp), (by simp), (by go_num), by omega, ⟨rfl⟩, ⟨by have := hrc.out; simp; omega⟩, ⟨HR.out.1, by rw [List.append_assoc]; exact HR.out.2⟩, ⟨fun k hk => (List.mem_append.1 hk).elim (hQj.out k) (fun h => by rw [List.mem_singleton.1 h]; exact hQt)⟩, ⟨h7⟩⟩
    ·have hcc : c = wd := by omega
     subst hcc
     have HR1 := HR.out
     simp only [List.drop_of_length_le (Nat.le_of_eq (List.length_range (n := c))), row, List.append_nil] at HR1
     have HR2 := Aside0.mk HR1
     clear HR1 HR
     obtain ⟨f2, fn2, cap2, rfl, hfn, hnm, hbd, hcall⟩ := hacc k hQk.out
     unfold encP at hcall
     have hlt2 : ((c : Int) < (c : Int)) = False := eq_false (by omega)
     go_wp2_with (go_at_call 94; (with_reducible refine (hwd _).mono ?_); rintro e w2 ⟨rfl, hb2⟩; have h2 := h.step hb2; have c20 : w2.cell? ⟨wo.heap.size, 0, none⟩ = some (.int .i64 k.1) := (blk_cell h2.bK 0).trans rfl; have c21 : w2.cell? ⟨wo.heap.size, 1, none⟩ = some (.int .i64 k.2) := (blk_cell h2.bK 1).trans rfl)
     refine start_ (n := 9) (S := fun w' => w'.cell? ⟨w.heap.size + 2, 2, none⟩ = some vA ∧ w'.cell? ⟨wo.heap.size, 0, none⟩ = some (.int .i64 k.1) ∧ w'.cell? ⟨wo.heap.size, 1, none⟩ = some (.int .i64 k.2)) (ds := [8]) (.replicate 9 false) (by kernel_rfl) rfl rfl (⟨(blk_cell h2.g.b2 2).trans rfl, c20, c21⟩) (fun hHeld => ?_)
     have h3 := h2.step (below_drew1 (Below.refl _ _))
     refine pure_ (i := 0) (N := some 79) (v := ?_) (a' := ?_) (zb 9 1) rfl rfl (by kernel_rfl) (fun _ _ _ h => h) (Or.inl ⟨by rfl, ?_⟩) ?_ ?_
     rotate_left
     ·intro w'
      go_simp
      with_reducible rfl
     rotate_left
     ·simp only [Act.put, Za, Zb, Zc, i64_w, i32_w]
      rfl
     refine pure_ (i := 2) (N := some 81) (v := ?_) (a' := ?_) (zb 9 5) rfl rfl (by kernel_rfl) (fun _ _ _ h => h) (Or.inl ⟨by rfl, ?_⟩) ?_ ?_
     rotate_left
     ·intro w'
      go_simp
      with_reducible rfl
     rotate_left
     ·simp only [Act.put, Za, Zb, Zc, i64_w, i32_w]
      rfl
     refine take_ (i := 1) (N := some 80) (v := ?_) (a' := ?_) (zb 9 7) rfl rfl (by kernel_rfl) (fun _ _ _ h => h) (Or.inl ⟨by rfl, ?_⟩) hHeld ?_ ?_
     rotate_left
     ·rintro w' ⟨s0, s1, s2⟩
      go_simp
      with_reducible rfl
     rotate_left
     ·simp only [Act.put, Za, Zb, Zc, i64_w, i32_w]
      rfl
     refine take_ (i := 3) (N := some 82) (v := ?_) (a' := ?_) (zb 9 15) rfl rfl (by kernel_rfl) (fun _ _ _ h => h) (Or.inl ⟨by rfl, ?_⟩) hHeld ?_ ?_
     rotate_left
     ·rintro w' ⟨s0, s1, s2⟩
      go_simp
      with_reducible rfl
     rotate_left
     ·simp only [Act.put, Za, Zb, Zc, i64_w, i32_w]
      rfl
     refine one_ (i := 4) (N := some 83) (zb 9 31) rfl rfl (by kernel_rfl) (by decide) (fun K hK => ?_)
     refine goesVs_ hfn hnm hbd #[.agg #[.int .i64 k.1, .int .i64 k.2]] (by rfl) rfl rfl rfl (by simp only [List.map_toArray, List.map_cons, List.map_nil]; rfl) ?_
     with_reducible refine (hcall _ h3.g.bel).mono ?_
     rintro e w4 ⟨rfl, hb4⟩
     refine ⟨_, rfl, ?_⟩
     have h4 := h3.step hb4
     refine hK.out _ _ ⟨(blk_cell h4.g.b2 2).trans rfl, (blk_cell h4.bK 0).trans rfl, (blk_cell h4.bK 1).trans rfl⟩ (fun hHeld => ?_)
     clear hK K
     refine norm_ (a' := ?_) ?_ ?_
     rotate_left
     ·show Act.put _ (some 83) _ = _
      simp only [Act.put, Za, Zb, Zc, i64_w, i32_w]
      rfl
     refine one_ (i := 5) (N := some 84) (zb 9 63) rfl rfl (by kernel_rfl) (by decide) (fun K hK => ?_)
     refine value_ (w1 := w4.alloc (.cells #[.bool (acc k)] 4)) (v := .slice (some ⟨w4.heap.size, 0, none⟩) 1 1) (by rfl) rfl (by first | (go_simp; done) | (go_simp; rfl)) ?_
     have h5 := h4.step (below_alloc (Below.refl _ _) (.cells #[.bool (acc k)] 4))
     refine hK.out _ _ ⟨(blk_cell h5.g.b2 2).trans rfl, (blk_cell h5.bK 0).trans rfl, (blk_cell h5.bK 1).trans rfl⟩ (fun hHeld => ?_)
     clear hK K
     refine norm_ (a' := ?_) ?_ ?_
     rotate_left
     ·show Act.put _ (some 84) _ = _
      simp only [Act.put, Za, Zb, Zc, i64_w, i32_w]
      rfl
     refine one_ (i := 6) (N := some 85) (zb 9 127) rfl rfl (by kernel_rfl) (by decide) (fun K hK => ?_)
     refine Kd.R_append_step Kd.bool (w0 := w) w.heap.size (by rfl) (.tmp 80) (.tmp 84) 22 4 (.bool false) 1 rfl Tryd.underlying22 info_bool rfl (by decide) (by decide) vA ((li.take i).map acc) (acc k) [.bool (acc k)] (fun _ => True) (fun _ => False) rfl rfl rfl (fun _ h => h.elim) (fun _ _ => trivial) h4.g.acc h4.g.bel (Below.size h4.g.bel) (by simp <;> omega) ?_
     intro v6 w6 hR6 hb6 hg6 hat6
     obtain ⟨A6, c6, hv6⟩ := Kd.R_slice hR6
     subst hv6
     obtain ⟨b26, bK6, h6⟩ := h4.acc hg6 hR6 hb6
     refine hK.out _ _ ⟨(blk_cell b26 2).trans rfl, (blk_cell bK6 0).trans rfl, (blk_cell bK6 1).trans rfl⟩ (fun hHeld => ?_)
     clear hK K
     refine norm_ (a' := ?_) ?_ ?_
     rotate_left
     ·show Act.put _ (some 85) _ = _
      simp only [Act.put, Za, Zb, Zc, i64_w, i32_w]
      rfl
     refine pure_ (i := 7) (N := some 86) (v := ?_) (a' := ?_) (zb 9 255) rfl rfl (by kernel_rfl) (fun _ _ _ h => h) (Or.inl ⟨by rfl, ?_⟩) ?_ ?_
     rotate_left
     ·intro w'
      go_simp
      with_reducible rfl
     rotate_left
     ·simp only [Act.put, Za, Zb, Zc, i64_w, i32_w]
      rfl
     refine last_ (i := 8) (N := none) (zb 9 511) rfl rfl (by kernel_rfl) (by decide) (fun K hK => ?_)
     have hf6 : w6.frozen? ⟨w.heap.size + 1 + 1, 2, none⟩ = false := blk_frozen b26 2
     have hc6 : w6.cell? ⟨w.heap.size + 1 + 1, 2, none⟩ = some vA := (blk_cell b26 2).trans rfl
     refine skip_ (w1 := w6.setCell ⟨w.heap.size + 1 + 1, 2, none⟩ (.slice A6 (((li.take i).map acc) ++ [acc k]).length c6)) (by rfl) rfl (by first | (go_simp; done) | (go_simp; rfl)) ?_
     refine hK.out _ _ ?_
     refine done_ (by kernel_rfl) ?_
     have h7 : H w tapes (s1, s2) (((li.take i).map acc) ++ [acc k]) (ents lj) lj rws wo.heap.size k r (.slice Ar r.length cr) (.slice A' lj.length c') (.slice A6 (((li.take i).map acc) ++ [acc k]).length c6) vN (w6.setCell ⟨w.heap.size + 1 + 1, 2, none⟩ (.slice A6 (((li.take i).map acc) ++ [acc k]).length c6)) := h6
     clear h h2 h3 h4 h5 h6 hf6 hc6 b26 bK6 hR6 hg6 hb6 hHeld c20 c21
     generalize w6.setCell ⟨w.heap.size + 1 + 1, 2, none⟩ (.slice A6 (((li.take i).map acc) ++ [acc k]).length c6) = w7 at h7 ⊢
     have c73 : w7.cell? ⟨w.heap.size + 1 + 1, 3, none⟩ = some vN := (blk_cell h7.g.b2 3).trans rfl
     go_wp2_with ((with_reducible refine gate_builtin (b := .append) (xs := #[.tmp 88, .tmp 90]) rfl ?_); at_builtin; refine R_append' (Kd.slice 3 (Kd.int .i64)) (w0 := w) w.heap.size rfl (.tmp 88) (.tmp 90) 64 87 (.slice none 0 0) 24 rfl Tryd.underlying64 info_ints rfl (by decide) (by decide) vN (rws.map ints) (ints r) [.slice Ar r.length cr] (fun _ => True) (fun j => True ∧ some j ≠ vN.ownBlock) _ (by simp) rfl rfl (Kd.M_row (R_typed h7.row h7.g.nxt (by decide))) (fun _ hk => hk) (fun _ _ => trivial) (Kd.R_mono h7.g.nxt (fun _ _ => trivial)) h7.g.bel (Below.size h7.g.bel) (by have := hrl.out; simp; omega) ?_; intro v8 w8 hR8 hb8 hg8 hat8; obtain ⟨A8, c8, hv8⟩ := Kd.R_slice hR8; have ev8 : (rws.map ints ++ [ints r]).length = rws.length + 1 := (by simp); rw [ev8] at hv8; subst hv8; obtain ⟨b28, h8⟩ := h7.nxt hg8 hR8 hb8; have c83 : w8.cell? ⟨w.heap.size + 1 + 1, 3, none⟩ = some vN := (blk_cell b28 3).trans rfl; have f83 : w8.frozen? ⟨w.heap.size + 1 + 1, 3, none⟩ = false := blk_frozen b28 3)
     go_roundg kf
     case measure => omega
     case rel =>
      have e1 : (lj.take (i + 1)).map acc = (li.take i).map acc ++ [acc k] := by rw [HR2.out.1, htr.out.1, List.map_append]; rfl
      exact ⟨i + 1, lj, rws ++ [r], A', c', _, _, rfl, (by go_num), ⟨by rw [HR2.out.1, HR2.out.2]; exact HH.out⟩, ⟨by have := hrl.out; simp; omega⟩, (by rw [HR2.out.1]; exact htr.out.2), hQj, ⟨by rw [e1]; exact h8⟩⟩
  ·have hii : i = li.length := by omega
   subst hii
   cases gk with
   | zero => exact absurd H.out (by simp [bfs])
   | succ kf =>
   have H1 := H.out
   unfold bfs at H1
   rw [dif_neg (by omega)] at H1
   simp only [Option.some.injEq, Prod.mk.injEq] at H1
   obtain ⟨rfl, rfl⟩ := H1
   replace g := g.out
   rw [List.take_of_length_le (Nat.le_refl _)] at g
   have hlt1 : ((li.length : Int) < (li.length : Int)) = False := eq_false (by omega)
   obtain ⟨AA, cA, rfl⟩ := Kd.R_slice g.acc
   obtain ⟨AN, cN, rfl⟩ := Kd.R_slice g.nxt
   have d0 : wo.cell? ⟨w.heap.size + 1 + 1, 0, none⟩ = some (.int .i64 tapes) := (blk_cell g.b2 0).trans rfl
   have d1 : wo.cell? ⟨w.heap.size + 1 + 1, 1, none⟩ = some (.int .i64 0) := (blk_cell g.b2 1).trans rfl
   have d2 : wo.cell? ⟨w.heap.size + 1 + 1, 2, none⟩ = some (.slice AA (li.map acc).length cA) := (blk_cell g.b2 2).trans rfl
   have d3 : wo.cell? ⟨w.heap.size + 1 + 1, 3, none⟩ = some (.slice AN (rws.map ints).length cN) := (blk_cell g.b2 3).trans rfl
   have e0 : wo.cell? ⟨w.heap.size + 1, 0, none⟩ = some (.int .i64 0) := (blk_cell g.b1 0).trans rfl
   have e1 : wo.cell? ⟨w.heap.size + 1, 1, none⟩ = some (.int .i64 0) := (blk_cell g.b1 1).trans rfl
   have e2 : wo.cell? ⟨w.heap.size + 1, 2, none⟩ = some (.slice none 0 0) := (blk_cell g.b1 2).trans rfl
   have e3 : wo.cell? ⟨w.heap.size + 1, 3, none⟩ = some (.slice none 0 0) := (blk_cell g.b1 3).trans rfl
   have f0 : wo.frozen? ⟨w.heap.size + 1, 0, none⟩ = false := blk_frozen g.b1 0
   have f1 : wo.frozen? ⟨w.heap.size + 1, 1, none⟩ = false := blk_frozen g.b1 1
   have f2 : wo.frozen? ⟨w.heap.size + 1, 2, none⟩ = false := blk_frozen g.b1 2
   have f3 : wo.frozen? ⟨w.heap.size + 1, 3, none⟩ = false := blk_frozen g.b1 3
   go_wp2_with fail
   have hA := g.acc
   have hN := g.nxt
   have hB := g.bel
   have b := g.b1
   clear d0 d1 d2 d3 e0 e1 e2 e3 f0 f1 f2 f3 g
   rw [List.length_map] at hA hN
   have b1 := blk_put b 0 (.int .i64 tapes) rfl
   have b2 := blk_put b1 1 (.int .i64 0) rfl
   have b3 := blk_put b2 2 (.slice AA li.length cA) rfl
   have b4 := blk_put b3 3 (.slice AN rws.length cN) rfl
   refine bodyPost_ret (results_ct rfl _ _ (w.heap.size + 1) 66 #[.int .i64 tapes, .int .i64 0, .slice AA li.length cA, .slice AN rws.length cN] (0, 0) _ rfl b4 Tryd.underlying66 rfl (by kernel_rfl)) rfl ⟨_, _, rfl, ?_, ?_, ?_⟩
   ·exact Kd.R_set (Kd.R_set (Kd.R_set (Kd.R_set hA b (by decide) 0 _) b1 (by decide) 1 _) b2 (by decide) 2 _) b3 (by decide) 3 _
   ·exact Kd.R_mono (Kd.R_set (Kd.R_set (Kd.R_set (Kd.R_set hN b (by decide) 0 _) b1 (by decide) 1 _) b2 (by decide) 2 _) b3 (by decide) 3 _) (fun _ _ => trivial)
   ·exact (((hB.setCell (by simp) _).setCell (by simp) _).setCell (by simp) _).setCell (by simp) _
end Go.Proofs.YtnjdkhnepmmfgaaDoor.GwQ
