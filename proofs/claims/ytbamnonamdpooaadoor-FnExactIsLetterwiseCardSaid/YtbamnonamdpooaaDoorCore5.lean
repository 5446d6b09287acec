/- Parts of the proof, put together by a program of the session. -/
import Derived.Test.YtbamnonamdpooaaDoorCore4
import Derived.Test.YtbamnonamdpooaaDoorCore2
import Derived.Test.YtbamnonamdpooaaDoorCore3
import Derived.Test.YtbamnonamdpooaaDoorRows
import Derived.LaidSub
import Derived.MakeChecks
import Derived.Test.YtbamnonamdpooaaDoorCWords
import Derived.ChangeArms
import Derived.OpenShut
import Derived.Deep.Slices
import Derived.DataReads
import Derived.WideShapes
import Derived.Lib.SmallJoins
import Derived.LaidMore
import Derived.Lay
import Derived.WalkKit
import Derived.ProofKit
import Derived.ShutString
import Derived.ChangeOld
import Derived.Below
import Derived.SizedLaws
namespace Go.Proofs.YtbamnonamdpooaaDoor.PC1
open Go.RowKit Go.Proofs.YtbamnonamdpooaaDoorW.PrintWords Go.Proofs.YtbamnonamdpooaaDoorW.PrintLast Go.Proofs.YtbamnonamdpooaaDoorW.PrintMore Go.Proofs.YtbamnonamdpooaaDoor.PB1
attribute [local go_sem] max2_int min2_int max_two min_two max_three min_three max_four min_four   -- for this text's walks alone
set_option linter.unusedVariables false
set_option linter.unusedSimpArgs false
/-! ### spec_l07Live: function 110 -/
mutual
def spec_l07Live.l0 : Nat → List Bool → Bool → Int → Int → List Bool → List (List Int) → Option (List Bool)
 | 0, _, _, _, _, _, _ => none
 | k + 1, x3, x4, x81000, x81001, x81002, x81003 => if x4 = true then (spec_l07Live.l1 k x3 false 0 x81000 x81001 x81002 x81003) else (some x3)
def spec_l07Live.l1 : Nat → List Bool → Bool → Int → Int → Int → List Bool → List (List Int) → Option (List Bool)
 | 0, _, _, _, _, _, _, _ => none
 | k + 1, x3, x4, x5, x81000, x81001, x81002, x81003 => if x5 < (x81003.length : Int) then (spec_l07Live.l2 k x3 x4 x5 0 x81000 x81001 x81002 x81003) else (spec_l07Live.l0 k x3 x4 x81000 x81001 x81002 x81003)
def spec_l07Live.l2 : Nat → List Bool → Bool → Int → Int → Int → Int → List Bool → List (List Int) → Option (List Bool)
 | 0, _, _, _, _, _, _, _, _ => none
 | k + 1, x3, x4, x5, x6, x81000, x81001, x81002, x81003 => if 0 ≤ x5 then (if x5 < (x81003.length : Int) then (if x6 < ((rd_L3 x81003 x5).length : Int) then (if 0 ≤ x6 then (if 0 ≤ (rd (rd_L3 x81003 x5) x6) then (if (rd (rd_L3 x81003 x5) x6) < (x3.length : Int) then (if rdOf false x3 (rd (rd_L3 x81003 x5) x6) = true then (if x5 < (x3.length : Int) then (if rdOf false x3 x5 = true then (spec_l07Live.l2 k x3 x4 x5 (wrap64 (x6 + 1)) x81000 x81001 x81002 x81003) else (spec_l07Live.l2 k (x3.set (x5 : Int).toNat true) true x5 (wrap64 (x6 + 1)) x81000 x81001 x81002 x81003)) else (none)) else (spec_l07Live.l2 k x3 x4 x5 (wrap64 (x6 + 1)) x81000 x81001 x81002 x81003)) else (none)) else (none)) else (none)) else (spec_l07Live.l1 k x3 x4 (wrap64 (x5 + 1)) x81000 x81001 x81002 x81003)) else (none)) else (none)
end
def spec_l07Live.f (k : Nat) (a0_0 : Int) (a0_1 : Int) (l0_2 : List Bool) (l0_3 : List (List Int)) : Option (List Bool) := (some (([] : List Bool) : List Bool)).bind fun y113 => (if y113.length + l0_2.length < 140737488355328 then (spec_l07Live.l0 k (y113 ++ l0_2) true a0_0 a0_1 l0_2 l0_3) else (none))
theorem spec_l07Live.mono_l : ∀ k, (∀ y0 y1 y2 y3 y4 y5, LeO (spec_l07Live.l0 k y0 y1 y2 y3 y4 y5) (spec_l07Live.l0 (k + 1) y0 y1 y2 y3 y4 y5)) ∧ (∀ y0 y1 y2 y3 y4 y5 y6, LeO (spec_l07Live.l1 k y0 y1 y2 y3 y4 y5 y6) (spec_l07Live.l1 (k + 1) y0 y1 y2 y3 y4 y5 y6)) ∧ (∀ y0 y1 y2 y3 y4 y5 y6 y7, LeO (spec_l07Live.l2 k y0 y1 y2 y3 y4 y5 y6 y7) (spec_l07Live.l2 (k + 1) y0 y1 y2 y3 y4 y5 y6 y7))
 | 0 => ⟨fun _ _ _ _ _ _ r h => by simp [spec_l07Live.l0] at h, fun _ _ _ _ _ _ _ r h => by simp [spec_l07Live.l1] at h, fun _ _ _ _ _ _ _ _ r h => by simp [spec_l07Live.l2] at h⟩
 | k + 1 => by
  obtain ⟨ih0, ih1, ih2⟩ := spec_l07Live.mono_l k
  refine ⟨?_, ?_, ?_⟩
  ·intro y0 y1 y2 y3 y4 y5
   unfold spec_l07Live.l0
   repeat' first
   | (with_reducible exact ih0 _ _ _ _ _ _)
   | (with_reducible exact ih1 _ _ _ _ _ _ _)
   | (with_reducible exact ih2 _ _ _ _ _ _ _ _)
   | (with_reducible exact LeO.refl _)
   | (with_reducible exact LeO.none _)
   | (with_reducible refine LeO.ite ?_ ?_)
   | (with_reducible refine LeO.bind ?_ (fun _ => ?_))
   | exact ih0 _ _ _ _ _ _
   | exact ih1 _ _ _ _ _ _ _
   | exact ih2 _ _ _ _ _ _ _ _
   | exact LeO.none _
   | refine LeO.ite ?_ ?_
   | refine LeO.bind ?_ (fun _ => ?_)
  ·intro y0 y1 y2 y3 y4 y5 y6
   unfold spec_l07Live.l1
   repeat' first
   | (with_reducible exact ih0 _ _ _ _ _ _)
   | (with_reducible exact ih1 _ _ _ _ _ _ _)
   | (with_reducible exact ih2 _ _ _ _ _ _ _ _)
   | (with_reducible exact LeO.refl _)
   | (with_reducible exact LeO.none _)
   | (with_reducible refine LeO.ite ?_ ?_)
   | (with_reducible refine LeO.bind ?_ (fun _ => ?_))
   | exact ih0 _ _ _ _ _ _
   | exact ih1 _ _ _ _ _ _ _
   | exact ih2 _ _ _ _ _ _ _ _
   | exact LeO.none _
   | refine LeO.ite ?_ ?_
   | refine LeO.bind ?_ (fun _ => ?_)
  ·intro y0 y1 y2 y3 y4 y5 y6 y7
   unfold spec_l07Live.l2
   repeat' first
   | (with_reducible exact ih0 _ _ _ _ _ _)
   | (with_reducible exact ih1 _ _ _ _ _ _ _)
   | (with_reducible exact ih2 _ _ _ _ _ _ _ _)
   | (with_reducible exact LeO.refl _)
   | (with_reducible exact LeO.none _)
   | (with_reducible refine LeO.ite ?_ ?_)
   | (with_reducible refine LeO.bind ?_ (fun _ => ?_))
   | exact ih0 _ _ _ _ _ _
   | exact ih1 _ _ _ _ _ _ _
   | exact ih2 _ _ _ _ _ _ _ _
   | exact LeO.none _
   | refine LeO.ite ?_ ?_
   | refine LeO.bind ?_ (fun _ => ?_)
theorem spec_l07Live.mono : ∀ a0 a1 a2 a3 k, LeO (spec_l07Live.f k a0 a1 a2 a3) (spec_l07Live.f (k + 1) a0 a1 a2 a3) := by
 intro a0 a1 a2 a3 k
 obtain ⟨ih0, ih1, ih2⟩ := spec_l07Live.mono_l k
 unfold spec_l07Live.f
 repeat' first
   | (with_reducible exact ih0 _ _ _ _ _ _)
   | (with_reducible exact ih1 _ _ _ _ _ _ _)
   | (with_reducible exact ih2 _ _ _ _ _ _ _ _)
   | (with_reducible exact LeO.refl _)
   | (with_reducible exact LeO.none _)
   | (with_reducible refine LeO.ite ?_ ?_)
   | (with_reducible refine LeO.bind ?_ (fun _ => ?_))
   | exact ih0 _ _ _ _ _ _
   | exact ih1 _ _ _ _ _ _ _
   | exact ih2 _ _ _ _ _ _ _ _
   | exact LeO.none _
   | refine LeO.ite ?_ ?_
   | refine LeO.bind ?_ (fun _ => ?_)
set_option maxHeartbeats 8000000 in
set_option maxRecDepth 100000 in
theorem spec_l07Live.calls (k : Nat) (gp0 : Nat) (a0_0 : Int) (a0_1 : Int) (A0_2 : Option Addr) (c0_2 : Nat) (l0_2 : List Bool) (A0_3 : Option Addr) (c0_3 : Nat) (l0_3 : List (List Int)) (r : List Bool) (w : World) (hb0 : w.heap[gp0]? = some (.cells #[.int .i64 a0_0, .int .i64 a0_1, .slice A0_2 l0_2.length c0_2, .slice A0_3 l0_3.length c0_3] 29 (0, 0))) (hr0_2 : Kd.C Kd.bool w A0_2 l0_2.length l0_2) (hc0_2 : l0_2.length ≤ c0_2) (hr0_3 : Kd.C (Kd.slice 2 (Kd.int .i64)) w A0_3 l0_3.length l0_3) (hc0_3 : l0_3.length ≤ c0_3) (h : spec_l07Live.f k a0_0 a0_1 l0_2 l0_3 = some r) :
  Calls Tryd.prog 110 #[.pointer (some ⟨gp0, 0, none⟩)] w fun e w' => ∃ v0_ : Value, e = .returned (v0_) ∧ Kd.R Kd.bool 4 w' w.heap.size (fun _ => True) v0_ r ∧ Below w.heap.size w w' := by
 have HR0_2 := Aside0.mk hr0_2
 have HC0_2 := Aside0.mk hc0_2
 clear hr0_2 hc0_2
 have HR0_3 := Aside0.mk hr0_3
 have HC0_3 := Aside0.mk hc0_3
 clear hr0_3 hc0_3
 have BK80 := Aside0.mk hb0
 clear hb0
 have HB := Aside0.mk (Below.refl w.heap.size w)
 have H : ((some (([] : List Bool) : List Bool)).bind fun y113 => (if y113.length + l0_2.length < 140737488355328 then (spec_l07Live.l0 k (y113 ++ l0_2) true a0_0 a0_1 l0_2 l0_3) else (none))) = some r := h
 clear h
 obtain ⟨y113, hy113⟩ : ∃ y_ : List Bool, y_ = (([] : List Bool)) := ⟨_, rfl⟩
 replace H : (if y113.length + l0_2.length < 140737488355328 then (spec_l07Live.l0 k (y113 ++ l0_2) true a0_0 a0_1 l0_2 l0_3) else (none)) = some r := by first | (rw [hy113]; with_reducible exact H) | (have H2_ := (Option.bind_some _ _).symm.trans H; rw [hy113]; with_reducible exact H2_) | (have H2_ := (Option.bind_some _ _).symm.trans H; with_reducible exact H2_) | with_reducible exact H | (rw [hy113]; exact H) | exact H
 have Ny113 := Aside0.mk hy113
 clear hy113
 by_cases c2 : y113.length + l0_2.length < 140737488355328
 ·rw [if_pos c2] at H
  have LMc2 := Aside0.mk c2
  clear c2
  obtain ⟨y116, hy116⟩ : ∃ y_ : List Bool, y_ = (y113 ++ l0_2) := ⟨_, rfl⟩
  replace H : (spec_l07Live.l0 k y116 true a0_0 a0_1 l0_2 l0_3) = some r := by first | (rw [hy116]; with_reducible exact H) | (have H2_ := (Option.bind_some _ _).symm.trans H; rw [hy116]; with_reducible exact H2_) | (have H2_ := (Option.bind_some _ _).symm.trans H; with_reducible exact H2_) | with_reducible exact H | (rw [hy116]; exact H) | exact H
  have Ny116 := Aside0.mk hy116
  clear hy116
  have H' := Aside0.mk H
  clear H
  go_enter Tryd.func110, Tryd.ntmps110
  go_wp2_with (first | ((with_reducible refine gate_dst (N := 7) rfl ?_); refine Kd.R_lit Kd.bool _ 4 ?hg (N := 7) ?hd (xs := ([] : List Bool)) (inner := []) (ok := fun _ => True) (okp := fun _ => True) ?hr ?hp (fun _ hk => hk) trivial (Below.refl _ _) (Nat.le_refl _) (by simp) ?_; (case hd => rfl); (case hg => rfl); (case hr => first | (go_simp; done) | (go_simp; rfl)); (case hp => exact (Reps.none _ _)); intro v114 w3 ho4 hb hg_ hnew_; clear hg_ hnew_; (first | rw [← Ny113.out] at ho4 | (simp only [Int.reduceToNat] at ho4; rw [← Ny113.out] at ho4)); have n0_ := Aside0.mk (Kd.R_lower ho4 (below_size (by repeat (first | (with_reducible first | exact HB.out | apply below_alloc | apply pw_below_drewN | apply below_drew1 | refine below_set ?_ GE80.out) | exact HB.out)))); have n1_ := Aside0.mk (blk_below (g := gp0) (o := .cells #[.int .i64 a0_0, .int .i64 a0_1, .slice A0_2 l0_2.length c0_2, .slice A0_3 l0_3.length c0_3] 29 (0, 0)) (by (with_reducible repeat (first | refine blk_drewN ?_ _ | refine blk_drew ?_ | refine blk_alloc ?_ _)); exact BK80.out) hb); have n2_ := Aside0.mk (below_step (by repeat (first | (with_reducible first | exact HB.out | apply below_alloc | apply pw_below_drewN | apply below_drew1 | refine below_set ?_ GE80.out) | exact HB.out)) hb); clear BK80; clear HB; have HO115 := n0_; have BK80 := n1_; have HB := n2_; clear n0_ n1_ n2_; clear hb ho4; have hcz5_0 : w3.cell? ⟨gp0, 0, none⟩ = some (.int .i64 a0_0) := (blk_cell BK80.out 0).trans rfl; have hcz5_1 : w3.cell? ⟨gp0, 1, none⟩ = some (.int .i64 a0_1) := (blk_cell BK80.out 1).trans rfl; have hcz5_2 : w3.cell? ⟨gp0, 2, none⟩ = some (.slice A0_2 l0_2.length c0_2) := (blk_cell BK80.out 2).trans rfl; have hcz5_3 : w3.cell? ⟨gp0, 3, none⟩ = some (.slice A0_3 l0_3.length c0_3) := (blk_cell BK80.out 3).trans rfl; have hfz5_0 := blk_frozen BK80.out 0; have hfz5_1 := blk_frozen BK80.out 1; have hfz5_2 := blk_frozen BK80.out 2; have hfz5_3 := blk_frozen BK80.out 3) | ((with_reducible refine gate_builtin (b := .append) (xs := #[.tmp 7, .tmp 11]) rfl ?_); at_builtin; refine Kd.R_append_rows Kd.bool (w0 := w) w.heap.size rfl (.tmp 7) (.tmp 11) 22 4 (.bool false) 1 rfl Tryd.underlying22 info4 rfl (by decide) (by omega) v114 y113 l0_2 _ _ _ (fun _ => True) (fun _ => False) rfl rfl ?aO ?aR (fun _ _ h => h) (fun _ h => h.elim) ?aF ?aB ?aS ?aL ?_; (case aR => repeat (first | exact (Kd.C_below HR0_2.out HB.out) | (with_reducible refine Kd.C_alloc ?_ _) | (with_reducible refine Kd.C_drewN ?_ _) | (with_reducible refine Kd.C_drew ?_))); (case aB => exact (by repeat (first | (with_reducible first | exact HB.out | apply below_alloc | apply pw_below_drewN | apply below_drew1 | refine below_set ?_ GE80.out) | exact HB.out))); (case aF => exact (fun _ _ => trivial)); (case aO => exact (by (with_reducible repeat (first | apply Kd.R_alloc | apply Kd.R_drewN | apply Kd.R_drew)); exact HO115.out)); (case aS => exact (below_size (by repeat (first | (with_reducible first | exact HB.out | apply below_alloc | apply pw_below_drewN | apply below_drew1 | refine below_set ?_ GE80.out) | exact HB.out)))); (case aL => have := LMc2.out; omega); intro v117 w6 ho hb hg hat; rw [← Ny116.out] at ho; have n0_ := Aside0.mk (blk_grown (g := gp0) (o := .cells #[.int .i64 a0_0, .int .i64 a0_1, .slice A0_2 l0_2.length c0_2, .slice A0_3 l0_3.length c0_3] 29 (0, 0)) (by (with_reducible repeat (first | refine blk_drewN ?_ _ | refine blk_drew ?_ | refine blk_alloc ?_ _)); exact BK80.out) hg (Kd.R_ne HO115.out BK80.out (by decide))); have n1_ := Aside0.mk (hb); have n2_ := Aside0.mk (ho); clear BK80; clear HB; clear HO115; have BK80 := n0_; have HB := n1_; have HO118 := n2_; clear n0_ n1_ n2_; clear ho hb hg hat))
  go_loopg [4] k (fun kq v4 w' => ∃ (x3_1 : List Bool) (x4_1 : Bool), v4 = .bool x4_1 ∧ Aside0 (spec_l07Live.l0 kq x3_1 x4_1 a0_0 a0_1 l0_2 l0_3 = some r) ∧ Aside0 (kq ≤ k) ∧ Aside0 (Kd.R Kd.bool 4 w' w.heap.size (fun _ => True) v117 x3_1) ∧ Aside0 (w'.heap[gp0]? = some (.cells #[.int .i64 a0_0, .int .i64 a0_1, (.slice A0_2 l0_2.length c0_2), (.slice A0_3 l0_3.length c0_3)] 29 (0, 0))) ∧ Aside0 (Below w.heap.size w w'))
  case atStart => exact ⟨(y116), (true), (by first | rfl | (simp; done) | (simp [*]; done) | (simp [wrap64]; done)), H', ⟨Nat.le_refl _⟩, ⟨by (with_reducible repeat (first | apply Kd.R_alloc | apply Kd.R_drewN | apply Kd.R_drew)); exact HO118.out⟩, ⟨by (with_reducible repeat (first | refine blk_drewN ?_ _ | refine blk_drew ?_ | refine blk_alloc ?_ _)); exact BK80.out⟩, ⟨by repeat (first | (with_reducible first | exact HB.out | apply below_alloc | apply pw_below_drewN | apply below_drew1 | refine below_set ?_ GE80.out) | exact HB.out)⟩⟩
  case round =>
   clear H'
   try clear c1
   try clear c2
   try clear p2
   try clear p6
   try clear hcz5_0
   try clear hcz5_1
   try clear hcz5_2
   try clear hcz5_3
   try clear hfz5_0
   try clear hfz5_1
   try clear hfz5_2
   try clear hfz5_3
   obtain ⟨x3_1, x4_1, rfl, HA, HK1, HO_3, BK80, HB⟩ := hrel
   cases gk with
   | zero => exact absurd HA.out (by simp [spec_l07Live.l0])
   | succ k1 =>
    have H := HA.out
    clear HA
    simp only [spec_l07Live.l0] at H
    by_cases c7 : x4_1 = true
    ·subst c7
     have H1 : (spec_l07Live.l1 k1 x3_1 false 0 a0_0 a0_1 l0_2 l0_3) = some r := by rw [if_pos rfl] at H; exact H
     clear H
     have H := H1
     clear H1
     have H' := Aside0.mk H
     clear H
     go_wp2
     go_loopg [4, 5] k1 (fun kq v4 v5 w' => ∃ (x3_2 : List Bool) (x4_2 : Bool) (x5_2 : Int), v4 = .bool x4_2 ∧ v5 = .int .i64 x5_2 ∧ Aside0 (spec_l07Live.l1 kq x3_2 x4_2 x5_2 a0_0 a0_1 l0_2 l0_3 = some r) ∧ Aside0 (kq ≤ k1) ∧ Aside0 (Kd.R Kd.bool 4 w' w.heap.size (fun _ => True) v117 x3_2) ∧ Aside0 (w'.heap[gp0]? = some (.cells #[.int .i64 a0_0, .int .i64 a0_1, (.slice A0_2 l0_2.length c0_2), (.slice A0_3 l0_3.length c0_3)] 29 (0, 0))) ∧ Aside0 (Below w.heap.size w w'))
     case atStart => exact ⟨(x3_1), (false), (0), (by first | rfl | (simp; done) | (simp [*]; done) | (simp [wrap64]; done)), (by first | rfl | (simp; done) | (simp [*]; done) | (simp [wrap64]; done)), H', ⟨Nat.le_refl _⟩, ⟨by (with_reducible repeat (first | apply Kd.R_alloc | apply Kd.R_drewN | apply Kd.R_drew)); exact HO_3.out⟩, ⟨by (with_reducible repeat (first | refine blk_drewN ?_ _ | refine blk_drew ?_ | refine blk_alloc ?_ _)); exact BK80.out⟩, ⟨by repeat (first | (with_reducible first | exact HB.out | apply below_alloc | apply pw_below_drewN | apply below_drew1 | refine below_set ?_ GE80.out) | exact HB.out)⟩⟩
     case round =>
      clear H'
      try clear c1
      try clear c2
      try clear p2
      try clear p6
      try clear c7
      try clear hcz5_0
      try clear hcz5_1
      try clear hcz5_2
      try clear hcz5_3
      try clear hfz5_0
      try clear hfz5_1
      try clear hfz5_2
      try clear hfz5_3
      try clear p2
      try clear p6
      obtain ⟨x3_2, x4_2, x5_2, rfl, rfl, HA, HK2, HO_3, BK80, HB⟩ := hrel
      cases gk with
      | zero => exact absurd HA.out (by simp [spec_l07Live.l1])
      | succ k2 =>
       have H := HA.out
       clear HA
       simp only [spec_l07Live.l1] at H
       by_cases c8 : x5_2 < (l0_3.length : Int)
       ·rw [if_pos c8] at H
        have c8b0 : decide (x5_2 < (l0_3.length : Int)) = true := decide_eq_true c8
        clear c8
        have H' := Aside0.mk H
        clear H
        have hcz9_0 : wr.cell? ⟨gp0, 0, none⟩ = some (.int .i64 a0_0) := (blk_cell BK80.out 0).trans rfl
        have hcz9_1 : wr.cell? ⟨gp0, 1, none⟩ = some (.int .i64 a0_1) := (blk_cell BK80.out 1).trans rfl
        have hcz9_2 : wr.cell? ⟨gp0, 2, none⟩ = some (.slice A0_2 l0_2.length c0_2) := (blk_cell BK80.out 2).trans rfl
        have hcz9_3 : wr.cell? ⟨gp0, 3, none⟩ = some (.slice A0_3 l0_3.length c0_3) := (blk_cell BK80.out 3).trans rfl
        have hfz9_0 := blk_frozen BK80.out 0
        have hfz9_1 := blk_frozen BK80.out 1
        have hfz9_2 := blk_frozen BK80.out 2
        have hfz9_3 := blk_frozen BK80.out 3
        go_wp2
        go_loopg [4, 6] k2 (fun kq v4 v6 w' => ∃ (x3_3 : List Bool) (x4_3 : Bool) (x6_3 : Int), v4 = .bool x4_3 ∧ v6 = .int .i64 x6_3 ∧ Aside0 (spec_l07Live.l2 kq x3_3 x4_3 x5_2 x6_3 a0_0 a0_1 l0_2 l0_3 = some r) ∧ Aside0 (kq ≤ k2) ∧ Aside0 (Kd.R Kd.bool 4 w' w.heap.size (fun _ => True) v117 x3_3) ∧ Aside0 (w'.heap[gp0]? = some (.cells #[.int .i64 a0_0, .int .i64 a0_1, (.slice A0_2 l0_2.length c0_2), (.slice A0_3 l0_3.length c0_3)] 29 (0, 0))) ∧ Aside0 (Below w.heap.size w w'))
        case atStart => exact ⟨(x3_2), (x4_2), (0), (by first | rfl | (simp; done) | (simp [*]; done) | (simp [wrap64]; done)), (by first | rfl | (simp; done) | (simp [*]; done) | (simp [wrap64]; done)), H', ⟨Nat.le_refl _⟩, ⟨by (with_reducible repeat (first | apply Kd.R_alloc | apply Kd.R_drewN | apply Kd.R_drew)); exact HO_3.out⟩, ⟨by (with_reducible repeat (first | refine blk_drewN ?_ _ | refine blk_drew ?_ | refine blk_alloc ?_ _)); exact BK80.out⟩, ⟨by repeat (first | (with_reducible first | exact HB.out | apply below_alloc | apply pw_below_drewN | apply below_drew1 | refine below_set ?_ GE80.out) | exact HB.out)⟩⟩
        case round =>
         clear H'
         try clear c1
         try clear c2
         try clear p2
         try clear p6
         try clear c7
         try clear c8
         try clear c8b0
         try clear hcz5_0
         try clear hcz5_1
         try clear hcz5_2
         try clear hcz5_3
         try clear hcz9_0
         try clear hcz9_1
         try clear hcz9_2
         try clear hcz9_3
         try clear hfz5_0
         try clear hfz5_1
         try clear hfz5_2
         try clear hfz5_3
         try clear hfz9_0
         try clear hfz9_1
         try clear hfz9_2
         try clear hfz9_3
         try clear p2
         try clear p6
         obtain ⟨x3_3, x4_3, x6_3, rfl, rfl, HA, HK3, HO_3, BK80, HB⟩ := hrel
         cases gk with
         | zero => exact absurd HA.out (by simp [spec_l07Live.l2])
         | succ k3 =>
          have H := HA.out
          clear HA
          simp only [spec_l07Live.l2] at H
          by_cases c10 : 0 ≤ x5_2
          ·rw [if_pos c10] at H
           have c10b0 : decide (0 ≤ x5_2) = true := decide_eq_true c10
           clear c10
           by_cases c11 : x5_2 < (l0_3.length : Int)
           ·rw [if_pos c11] at H
            have c11b0 : decide (x5_2 < (l0_3.length : Int)) = true := decide_eq_true c11
            clear c11
            by_cases c12 : x6_3 < ((rd_L3 l0_3 x5_2).length : Int)
            ·rw [if_pos c12] at H
             have c12b0 : decide (x6_3 < ((rd_L3 l0_3 x5_2).length : Int)) = true := decide_eq_true c12
             clear c12
             by_cases c13 : 0 ≤ x6_3
             ·rw [if_pos c13] at H
              have c13b0 : decide (0 ≤ x6_3) = true := decide_eq_true c13
              clear c13
              by_cases c14 : 0 ≤ (rd (rd_L3 l0_3 x5_2) x6_3)
              ·rw [if_pos c14] at H
               have c14b0 : decide (0 ≤ (rd (rd_L3 l0_3 x5_2) x6_3)) = true := decide_eq_true c14
               clear c14
               by_cases c15 : (rd (rd_L3 l0_3 x5_2) x6_3) < (x3_3.length : Int)
               ·rw [if_pos c15] at H
                have c15b0 : decide ((rd (rd_L3 l0_3 x5_2) x6_3) < (x3_3.length : Int)) = true := decide_eq_true c15
                clear c15
                obtain ⟨bq16, hbq16⟩ : ∃ b_ : Bool, b_ = (rdOf false x3_3 (rd (rd_L3 l0_3 x5_2) x6_3)) := ⟨_, rfl⟩
                replace H : (if bq16 = true then (if x5_2 < (x3_3.length : Int) then (if rdOf false x3_3 x5_2 = true then (spec_l07Live.l2 k3 x3_3 x4_3 x5_2 (wrap64 (x6_3 + 1)) a0_0 a0_1 l0_2 l0_3) else (spec_l07Live.l2 k3 (x3_3.set (x5_2 : Int).toNat true) true x5_2 (wrap64 (x6_3 + 1)) a0_0 a0_1 l0_2 l0_3)) else (none)) else (spec_l07Live.l2 k3 x3_3 x4_3 x5_2 (wrap64 (x6_3 + 1)) a0_0 a0_1 l0_2 l0_3)) = some r := by rw [← hbq16] at H; exact H
                have Nbq16 := Aside0.mk hbq16
                clear hbq16
                by_cases c17 : bq16 = true
                ·subst c17
                 have H1 : (if x5_2 < (x3_3.length : Int) then (if rdOf false x3_3 x5_2 = true then (spec_l07Live.l2 k3 x3_3 x4_3 x5_2 (wrap64 (x6_3 + 1)) a0_0 a0_1 l0_2 l0_3) else (spec_l07Live.l2 k3 (x3_3.set (x5_2 : Int).toNat true) true x5_2 (wrap64 (x6_3 + 1)) a0_0 a0_1 l0_2 l0_3)) else (none)) = some r := by rw [if_pos rfl] at H; exact H
                 clear H
                 have H := H1
                 clear H1
                 by_cases c18 : x5_2 < (x3_3.length : Int)
                 ·rw [if_pos c18] at H
                  have c18b0 : decide (x5_2 < (x3_3.length : Int)) = true := decide_eq_true c18
                  clear c18
                  obtain ⟨bq19, hbq19⟩ : ∃ b_ : Bool, b_ = (rdOf false x3_3 x5_2) := ⟨_, rfl⟩
                  replace H : (if bq19 = true then (spec_l07Live.l2 k3 x3_3 x4_3 x5_2 (wrap64 (x6_3 + 1)) a0_0 a0_1 l0_2 l0_3) else (spec_l07Live.l2 k3 (x3_3.set (x5_2 : Int).toNat true) true x5_2 (wrap64 (x6_3 + 1)) a0_0 a0_1 l0_2 l0_3)) = some r := by rw [← hbq19] at H; exact H
                  have Nbq19 := Aside0.mk hbq19
                  clear hbq19
                  by_cases c20 : bq19 = true
                  ·subst c20
                   have H1 : (spec_l07Live.l2 k3 x3_3 x4_3 x5_2 (wrap64 (x6_3 + 1)) a0_0 a0_1 l0_2 l0_3) = some r := by rw [if_pos rfl] at H; exact H
                   clear H
                   have H := H1
                   clear H1
                   have H' := Aside0.mk H
                   clear H
                   have hcz21_0 : wr.cell? ⟨gp0, 0, none⟩ = some (.int .i64 a0_0) := (blk_cell BK80.out 0).trans rfl
                   have hcz21_1 : wr.cell? ⟨gp0, 1, none⟩ = some (.int .i64 a0_1) := (blk_cell BK80.out 1).trans rfl
                   have hcz21_2 : wr.cell? ⟨gp0, 2, none⟩ = some (.slice A0_2 l0_2.length c0_2) := (blk_cell BK80.out 2).trans rfl
                   have hcz21_3 : wr.cell? ⟨gp0, 3, none⟩ = some (.slice A0_3 l0_3.length c0_3) := (blk_cell BK80.out 3).trans rfl
                   have hfz21_0 := blk_frozen BK80.out 0
                   have hfz21_1 := blk_frozen BK80.out 1
                   have hfz21_2 := blk_frozen BK80.out 2
                   have hfz21_3 := blk_frozen BK80.out 3
                   have p119 : 0 ≤ (x5_2 : Int) := of_decide_eq_true (by first | (with_reducible assumption) | assumption)
                   have q119 : x5_2 < (l0_3.length : Int) := of_decide_eq_true (by first | (with_reducible assumption) | assumption)
                   obtain ⟨ad119, A119_0, c119_0, e119, hx119_0, hl119_0, hi119_0⟩ := at_L3 HR0_3.out x5_2 p119 q119
                   cases e119
                   replace hx119_0 := (HB.out.cell (World.block_lt_of_cell? w _ hx119_0)).trans hx119_0
                   have HR119_0 := Aside0.mk hi119_0
                   have HC119_0 := Aside0.mk hl119_0
                   clear hi119_0 hl119_0
                   replace p119 := eq_true p119
                   replace q119 := eq_true q119
                   have p120 : 0 ≤ (x5_2 : Int) := of_decide_eq_true (by first | (with_reducible assumption) | assumption)
                   have q120 : x5_2 < (l0_3.length : Int) := of_decide_eq_true (by first | (with_reducible assumption) | assumption)
                   obtain ⟨ad120, A120_0, c120_0, e120, hx120_0, hl120_0, hi120_0⟩ := at_L3 HR0_3.out x5_2 p120 q120
                   obtain rfl : ad119 = ad120 := (by injection e120)
                   replace hx120_0 := (HB.out.cell (World.block_lt_of_cell? w _ hx120_0)).trans hx120_0
                   have HR120_0 := Aside0.mk hi120_0
                   have HC120_0 := Aside0.mk hl120_0
                   clear hi120_0 hl120_0
                   replace p120 := eq_true p120
                   replace q120 := eq_true q120
                   have ea_ := Option.some.inj (hx119_0.symm.trans hx120_0)
                   injection ea_ with ea_ en_ ec_
                   subst ea_
                   subst ec_
                   clear en_
                   have p121 : 0 ≤ (x6_3 : Int) := of_decide_eq_true (by first | (with_reducible assumption) | assumption)
                   have q121 : x6_3 < ((rd_L3 l0_3 x5_2).length : Int) := of_decide_eq_true (by first | (with_reducible assumption) | assumption)
                   obtain ⟨ad121, e121, hx121_0⟩ := Kd.at_int HR120_0.out x6_3 p121 q121
                   cases e121
                   replace hx121_0 := (HB.out.cell (World.block_lt_of_cell? w _ hx121_0)).trans hx121_0
                   replace p121 := eq_true p121
                   replace q121 := eq_true q121
                   obtain ⟨Ao22, co22, eo22⟩ := Kd.R_slice HO_3.out
                   subst eo22
                   have p122 : 0 ≤ ((rd (rd_L3 l0_3 x5_2) x6_3) : Int) := of_decide_eq_true (by first | (with_reducible assumption) | assumption)
                   have q122 : (rd (rd_L3 l0_3 x5_2) x6_3) < (x3_3.length : Int) := of_decide_eq_true (by first | (with_reducible assumption) | assumption)
                   obtain ⟨ad122, e122, hx122_0⟩ := Kd.at_bool (Kd.R_reads' HO_3.out).2.2 (rd (rd_L3 l0_3 x5_2) x6_3) p122 q122
                   (try rw [← Nbq16.out] at hx122_0)
                   (try rw [← Nbq19.out] at hx122_0)
                   cases e122
                   replace p122 := eq_true p122
                   replace q122 := eq_true q122
                   have p123 : 0 ≤ (x5_2 : Int) := of_decide_eq_true (by first | (with_reducible assumption) | assumption)
                   have q123 : x5_2 < (x3_3.length : Int) := of_decide_eq_true (by first | (with_reducible assumption) | assumption)
                   obtain ⟨ad123, e123, hx123_0⟩ := Kd.at_bool (Kd.R_reads' HO_3.out).2.2 x5_2 p123 q123
                   (try rw [← Nbq16.out] at hx123_0)
                   (try rw [← Nbq19.out] at hx123_0)
                   obtain rfl : ad122 = ad123 := (by injection e123)
                   replace p123 := eq_true p123
                   replace q123 := eq_true q123
                   go_wp2
                   go_roundg k3
                   case measure => have := HK1.out; have := HK2.out; have := HK3.out; omega
                   case rel => exact ⟨(x3_3), (x4_3), (wrap64 (x6_3 + 1)), (by first | rfl | (simp; done) | (simp [*]; done) | (simp [wrap64]; done)), (by first | rfl | (simp; done) | (simp [*]; done) | (simp [wrap64]; done)), H', ⟨by have := HK1.out; have := HK2.out; have := HK3.out; omega⟩, ⟨by (with_reducible repeat (first | apply Kd.R_alloc | apply Kd.R_drewN | apply Kd.R_drew)); exact HO_3.out⟩, ⟨by (with_reducible repeat (first | refine blk_drewN ?_ _ | refine blk_drew ?_ | refine blk_alloc ?_ _)); exact BK80.out⟩, ⟨by repeat (first | (with_reducible first | exact HB.out | apply below_alloc | apply pw_below_drewN | apply below_drew1 | refine below_set ?_ GE80.out) | exact HB.out)⟩⟩
                  ·replace c20 := Bool.eq_false_iff.mpr c20
                   subst c20
                   have H1 : (spec_l07Live.l2 k3 (x3_3.set (x5_2 : Int).toNat true) true x5_2 (wrap64 (x6_3 + 1)) a0_0 a0_1 l0_2 l0_3) = some r := by rw [if_neg (show ¬ (false = true) by decide)] at H; exact H
                   clear H
                   have H := H1
                   clear H1
                   obtain ⟨y124, hy124⟩ : ∃ y_ : List Bool, y_ = (x3_3.set (x5_2 : Int).toNat true) := ⟨_, rfl⟩
                   replace H : (spec_l07Live.l2 k3 y124 true x5_2 (wrap64 (x6_3 + 1)) a0_0 a0_1 l0_2 l0_3) = some r := by first | (rw [hy124]; with_reducible exact H) | (have H2_ := (Option.bind_some _ _).symm.trans H; rw [hy124]; with_reducible exact H2_) | (have H2_ := (Option.bind_some _ _).symm.trans H; with_reducible exact H2_) | with_reducible exact H | (rw [hy124]; exact H) | exact H
                   have Ny124 := Aside0.mk hy124
                   clear hy124
                   have H' := Aside0.mk H
                   clear H
                   have hcz24_0 : wr.cell? ⟨gp0, 0, none⟩ = some (.int .i64 a0_0) := (blk_cell BK80.out 0).trans rfl
                   have hcz24_1 : wr.cell? ⟨gp0, 1, none⟩ = some (.int .i64 a0_1) := (blk_cell BK80.out 1).trans rfl
                   have hcz24_2 : wr.cell? ⟨gp0, 2, none⟩ = some (.slice A0_2 l0_2.length c0_2) := (blk_cell BK80.out 2).trans rfl
                   have hcz24_3 : wr.cell? ⟨gp0, 3, none⟩ = some (.slice A0_3 l0_3.length c0_3) := (blk_cell BK80.out 3).trans rfl
                   have hfz24_0 := blk_frozen BK80.out 0
                   have hfz24_1 := blk_frozen BK80.out 1
                   have hfz24_2 := blk_frozen BK80.out 2
                   have hfz24_3 := blk_frozen BK80.out 3
                   have p119 : 0 ≤ (x5_2 : Int) := of_decide_eq_true (by first | (with_reducible assumption) | assumption)
                   have q119 : x5_2 < (l0_3.length : Int) := of_decide_eq_true (by first | (with_reducible assumption) | assumption)
                   obtain ⟨ad119, A119_0, c119_0, e119, hx119_0, hl119_0, hi119_0⟩ := at_L3 HR0_3.out x5_2 p119 q119
                   cases e119
                   replace hx119_0 := (HB.out.cell (World.block_lt_of_cell? w _ hx119_0)).trans hx119_0
                   have HR119_0 := Aside0.mk hi119_0
                   have HC119_0 := Aside0.mk hl119_0
                   clear hi119_0 hl119_0
                   replace p119 := eq_true p119
                   replace q119 := eq_true q119
                   have p120 : 0 ≤ (x5_2 : Int) := of_decide_eq_true (by first | (with_reducible assumption) | assumption)
                   have q120 : x5_2 < (l0_3.length : Int) := of_decide_eq_true (by first | (with_reducible assumption) | assumption)
                   obtain ⟨ad120, A120_0, c120_0, e120, hx120_0, hl120_0, hi120_0⟩ := at_L3 HR0_3.out x5_2 p120 q120
                   obtain rfl : ad119 = ad120 := (by injection e120)
                   replace hx120_0 := (HB.out.cell (World.block_lt_of_cell? w _ hx120_0)).trans hx120_0
                   have HR120_0 := Aside0.mk hi120_0
                   have HC120_0 := Aside0.mk hl120_0
                   clear hi120_0 hl120_0
                   replace p120 := eq_true p120
                   replace q120 := eq_true q120
                   have ea_ := Option.some.inj (hx119_0.symm.trans hx120_0)
                   injection ea_ with ea_ en_ ec_
                   subst ea_
                   subst ec_
                   clear en_
                   have p121 : 0 ≤ (x6_3 : Int) := of_decide_eq_true (by first | (with_reducible assumption) | assumption)
                   have q121 : x6_3 < ((rd_L3 l0_3 x5_2).length : Int) := of_decide_eq_true (by first | (with_reducible assumption) | assumption)
                   obtain ⟨ad121, e121, hx121_0⟩ := Kd.at_int HR120_0.out x6_3 p121 q121
                   cases e121
                   replace hx121_0 := (HB.out.cell (World.block_lt_of_cell? w _ hx121_0)).trans hx121_0
                   replace p121 := eq_true p121
                   replace q121 := eq_true q121
                   obtain ⟨Ao25, co25, eo25⟩ := Kd.R_slice HO_3.out
                   subst eo25
                   have p122 : 0 ≤ ((rd (rd_L3 l0_3 x5_2) x6_3) : Int) := of_decide_eq_true (by first | (with_reducible assumption) | assumption)
                   have q122 : (rd (rd_L3 l0_3 x5_2) x6_3) < (x3_3.length : Int) := of_decide_eq_true (by first | (with_reducible assumption) | assumption)
                   obtain ⟨ad122, e122, hx122_0⟩ := Kd.at_bool (Kd.R_reads' HO_3.out).2.2 (rd (rd_L3 l0_3 x5_2) x6_3) p122 q122
                   (try rw [← Nbq16.out] at hx122_0)
                   (try rw [← Nbq19.out] at hx122_0)
                   cases e122
                   replace p122 := eq_true p122
                   replace q122 := eq_true q122
                   have p123 : 0 ≤ (x5_2 : Int) := of_decide_eq_true (by first | (with_reducible assumption) | assumption)
                   have q123 : x5_2 < (x3_3.length : Int) := of_decide_eq_true (by first | (with_reducible assumption) | assumption)
                   obtain ⟨ad123, e123, hx123_0⟩ := Kd.at_bool (Kd.R_reads' HO_3.out).2.2 x5_2 p123 q123
                   (try rw [← Nbq16.out] at hx123_0)
                   (try rw [← Nbq19.out] at hx123_0)
                   obtain rfl : ad122 = ad123 := (by injection e123)
                   replace p123 := eq_true p123
                   replace q123 := eq_true q123
                   have p23 : 0 ≤ (x5_2 : Int) := of_decide_eq_true (by first | (with_reducible assumption) | assumption)
                   have q23 : (x5_2 : Int) < ((x3_3.length : Int) : Int) := of_decide_eq_true (by first | (with_reducible assumption) | assumption)
                   obtain ⟨go23, co23, eo23, gb23, gl23, cl23, HG23⟩ := Kd.R_form HO_3.out (by omega)
                   (first | cases eo23 | (injection eo23 with ea_ en_ ec_; (first | subst ea_ | (injection ea_ with ea_; subst ea_)); subst ec_; clear en_))
                   have GB23 := Aside0.mk gb23
                   have GG23 := Aside0.mk HG23
                   clear gb23 gl23 HG23
                   (first | simp only [add_plain] at hx122_0 | skip)
                   (first | simp only [add_plain] at hx123_0 | skip)
                   obtain ⟨hx23_0, hf23_0⟩ := Kd.R_celln false HO_3.out (x5_2 : Int) p23 q23
                   replace p23 := eq_true p23
                   replace q23 := eq_true q23
                   have HP26 := Kd.R_putg HO_3.out (x5_2 : Int) true
                   go_wp2_with (first | ((with_reducible refine gate_store (t := 4) (p := 57) rfl ?_); refine store_event (t := 4) (p := 57) (v := ?vo_w27) (w1 := (wr.setCell ⟨go23, (x5_2 : Int).toNat, none⟩ (.bool true))) ?hg ?ho ?hn ?hr ?_; (case ho => rfl); (case hg => rfl); (case hn => rfl); (case hr => first | (go_simp; done) | (go_simp; rfl)); intro w27 hw; have hg : wr.grownBy w27 (some go23) := (by rw [hw]; exact HP26.2); have hp_ : Kd.R Kd.bool 4 w27 w.heap.size (fun _ => True) (.slice (some ⟨go23, 0, none⟩) x3_3.length co25) y124 := (by rw [hw, Ny124.out]; exact HP26.1); clear HP26; have n0_ := Aside0.mk (hp_); have n1_ := Aside0.mk (blk_grown (g := gp0) (o := .cells #[.int .i64 a0_0, .int .i64 a0_1, .slice A0_2 l0_2.length c0_2, .slice (some ad119) l0_3.length c0_3] 29 (0, 0)) (by (with_reducible repeat (first | refine blk_drewN ?_ _ | refine blk_drew ?_ | refine blk_alloc ?_ _)); exact BK80.out) hg (Kd.R_ne HO_3.out BK80.out (by decide))); have n2_ := Aside0.mk ((by rw [hw]; exact below_set (HB.out) GB23.out : Below w.heap.size w w27)); clear HO_3; clear BK80; clear HB; have HO_3 := n0_; have BK80 := n1_; have HB := n2_; clear n0_ n1_ n2_; clear hg hw hp_))
                   go_roundg k3
                   case measure => have := HK1.out; have := HK2.out; have := HK3.out; omega
                   case rel => exact ⟨(y124), (true), (wrap64 (x6_3 + 1)), (by first | rfl | (simp; done) | (simp [*]; done) | (simp [wrap64]; done)), (by first | rfl | (simp; done) | (simp [*]; done) | (simp [wrap64]; done)), H', ⟨by have := HK1.out; have := HK2.out; have := HK3.out; omega⟩, ⟨by (with_reducible repeat (first | apply Kd.R_alloc | apply Kd.R_drewN | apply Kd.R_drew)); exact HO_3.out⟩, ⟨by (with_reducible repeat (first | refine blk_drewN ?_ _ | refine blk_drew ?_ | refine blk_alloc ?_ _)); exact BK80.out⟩, ⟨by repeat (first | (with_reducible first | exact HB.out | apply below_alloc | apply pw_below_drewN | apply below_drew1 | refine below_set ?_ GE80.out) | exact HB.out)⟩⟩
                 ·rw [if_neg c18] at H
                  exact absurd H (by simp)
                ·replace c17 := Bool.eq_false_iff.mpr c17
                 subst c17
                 have H1 : (spec_l07Live.l2 k3 x3_3 x4_3 x5_2 (wrap64 (x6_3 + 1)) a0_0 a0_1 l0_2 l0_3) = some r := by rw [if_neg (show ¬ (false = true) by decide)] at H; exact H
                 clear H
                 have H := H1
                 clear H1
                 have H' := Aside0.mk H
                 clear H
                 have hcz28_0 : wr.cell? ⟨gp0, 0, none⟩ = some (.int .i64 a0_0) := (blk_cell BK80.out 0).trans rfl
                 have hcz28_1 : wr.cell? ⟨gp0, 1, none⟩ = some (.int .i64 a0_1) := (blk_cell BK80.out 1).trans rfl
                 have hcz28_2 : wr.cell? ⟨gp0, 2, none⟩ = some (.slice A0_2 l0_2.length c0_2) := (blk_cell BK80.out 2).trans rfl
                 have hcz28_3 : wr.cell? ⟨gp0, 3, none⟩ = some (.slice A0_3 l0_3.length c0_3) := (blk_cell BK80.out 3).trans rfl
                 have hfz28_0 := blk_frozen BK80.out 0
                 have hfz28_1 := blk_frozen BK80.out 1
                 have hfz28_2 := blk_frozen BK80.out 2
                 have hfz28_3 := blk_frozen BK80.out 3
                 have p119 : 0 ≤ (x5_2 : Int) := of_decide_eq_true (by first | (with_reducible assumption) | assumption)
                 have q119 : x5_2 < (l0_3.length : Int) := of_decide_eq_true (by first | (with_reducible assumption) | assumption)
                 obtain ⟨ad119, A119_0, c119_0, e119, hx119_0, hl119_0, hi119_0⟩ := at_L3 HR0_3.out x5_2 p119 q119
                 cases e119
                 replace hx119_0 := (HB.out.cell (World.block_lt_of_cell? w _ hx119_0)).trans hx119_0
                 have HR119_0 := Aside0.mk hi119_0
                 have HC119_0 := Aside0.mk hl119_0
                 clear hi119_0 hl119_0
                 replace p119 := eq_true p119
                 replace q119 := eq_true q119
                 have p120 : 0 ≤ (x5_2 : Int) := of_decide_eq_true (by first | (with_reducible assumption) | assumption)
                 have q120 : x5_2 < (l0_3.length : Int) := of_decide_eq_true (by first | (with_reducible assumption) | assumption)
                 obtain ⟨ad120, A120_0, c120_0, e120, hx120_0, hl120_0, hi120_0⟩ := at_L3 HR0_3.out x5_2 p120 q120
                 obtain rfl : ad119 = ad120 := (by injection e120)
                 replace hx120_0 := (HB.out.cell (World.block_lt_of_cell? w _ hx120_0)).trans hx120_0
                 have HR120_0 := Aside0.mk hi120_0
                 have HC120_0 := Aside0.mk hl120_0
                 clear hi120_0 hl120_0
                 replace p120 := eq_true p120
                 replace q120 := eq_true q120
                 have ea_ := Option.some.inj (hx119_0.symm.trans hx120_0)
                 injection ea_ with ea_ en_ ec_
                 subst ea_
                 subst ec_
                 clear en_
                 have p121 : 0 ≤ (x6_3 : Int) := of_decide_eq_true (by first | (with_reducible assumption) | assumption)
                 have q121 : x6_3 < ((rd_L3 l0_3 x5_2).length : Int) := of_decide_eq_true (by first | (with_reducible assumption) | assumption)
                 obtain ⟨ad121, e121, hx121_0⟩ := Kd.at_int HR120_0.out x6_3 p121 q121
                 cases e121
                 replace hx121_0 := (HB.out.cell (World.block_lt_of_cell? w _ hx121_0)).trans hx121_0
                 replace p121 := eq_true p121
                 replace q121 := eq_true q121
                 obtain ⟨Ao29, co29, eo29⟩ := Kd.R_slice HO_3.out
                 subst eo29
                 have p122 : 0 ≤ ((rd (rd_L3 l0_3 x5_2) x6_3) : Int) := of_decide_eq_true (by first | (with_reducible assumption) | assumption)
                 have q122 : (rd (rd_L3 l0_3 x5_2) x6_3) < (x3_3.length : Int) := of_decide_eq_true (by first | (with_reducible assumption) | assumption)
                 obtain ⟨ad122, e122, hx122_0⟩ := Kd.at_bool (Kd.R_reads' HO_3.out).2.2 (rd (rd_L3 l0_3 x5_2) x6_3) p122 q122
                 (try rw [← Nbq16.out] at hx122_0)
                 cases e122
                 replace p122 := eq_true p122
                 replace q122 := eq_true q122
                 go_wp2
                 go_roundg k3
                 case measure => have := HK1.out; have := HK2.out; have := HK3.out; omega
                 case rel => exact ⟨(x3_3), (x4_3), (wrap64 (x6_3 + 1)), (by first | rfl | (simp; done) | (simp [*]; done) | (simp [wrap64]; done)), (by first | rfl | (simp; done) | (simp [*]; done) | (simp [wrap64]; done)), H', ⟨by have := HK1.out; have := HK2.out; have := HK3.out; omega⟩, ⟨by (with_reducible repeat (first | apply Kd.R_alloc | apply Kd.R_drewN | apply Kd.R_drew)); exact HO_3.out⟩, ⟨by (with_reducible repeat (first | refine blk_drewN ?_ _ | refine blk_drew ?_ | refine blk_alloc ?_ _)); exact BK80.out⟩, ⟨by repeat (first | (with_reducible first | exact HB.out | apply below_alloc | apply pw_below_drewN | apply below_drew1 | refine below_set ?_ GE80.out) | exact HB.out)⟩⟩
               ·rw [if_neg c15] at H
                exact absurd H (by simp)
              ·rw [if_neg c14] at H
               exact absurd H (by simp)
             ·rw [if_neg c13] at H
              exact absurd H (by simp)
            ·rw [if_neg c12] at H
             have c12b0 : decide (x6_3 < ((rd_L3 l0_3 x5_2).length : Int)) = false := decide_eq_false c12
             clear c12
             have H' := Aside0.mk H
             clear H
             have hcz30_0 : wr.cell? ⟨gp0, 0, none⟩ = some (.int .i64 a0_0) := (blk_cell BK80.out 0).trans rfl
             have hcz30_1 : wr.cell? ⟨gp0, 1, none⟩ = some (.int .i64 a0_1) := (blk_cell BK80.out 1).trans rfl
             have hcz30_2 : wr.cell? ⟨gp0, 2, none⟩ = some (.slice A0_2 l0_2.length c0_2) := (blk_cell BK80.out 2).trans rfl
             have hcz30_3 : wr.cell? ⟨gp0, 3, none⟩ = some (.slice A0_3 l0_3.length c0_3) := (blk_cell BK80.out 3).trans rfl
             have hfz30_0 := blk_frozen BK80.out 0
             have hfz30_1 := blk_frozen BK80.out 1
             have hfz30_2 := blk_frozen BK80.out 2
             have hfz30_3 := blk_frozen BK80.out 3
             have p119 : 0 ≤ (x5_2 : Int) := of_decide_eq_true (by first | (with_reducible assumption) | assumption)
             have q119 : x5_2 < (l0_3.length : Int) := of_decide_eq_true (by first | (with_reducible assumption) | assumption)
             obtain ⟨ad119, A119_0, c119_0, e119, hx119_0, hl119_0, hi119_0⟩ := at_L3 HR0_3.out x5_2 p119 q119
             cases e119
             replace hx119_0 := (HB.out.cell (World.block_lt_of_cell? w _ hx119_0)).trans hx119_0
             have HR119_0 := Aside0.mk hi119_0
             have HC119_0 := Aside0.mk hl119_0
             clear hi119_0 hl119_0
             replace p119 := eq_true p119
             replace q119 := eq_true q119
             go_wp2
             go_roundg k3
             case measure => have := HK1.out; have := HK2.out; have := HK3.out; omega
             case rel => exact ⟨(x3_3), (x4_3), (wrap64 (x5_2 + 1)), (by first | rfl | (simp; done) | (simp [*]; done) | (simp [wrap64]; done)), (by first | rfl | (simp; done) | (simp [*]; done) | (simp [wrap64]; done)), H', ⟨by have := HK1.out; have := HK2.out; have := HK3.out; omega⟩, ⟨by (with_reducible repeat (first | apply Kd.R_alloc | apply Kd.R_drewN | apply Kd.R_drew)); exact HO_3.out⟩, ⟨by (with_reducible repeat (first | refine blk_drewN ?_ _ | refine blk_drew ?_ | refine blk_alloc ?_ _)); exact BK80.out⟩, ⟨by repeat (first | (with_reducible first | exact HB.out | apply below_alloc | apply pw_below_drewN | apply below_drew1 | refine below_set ?_ GE80.out) | exact HB.out)⟩⟩
           ·rw [if_neg c11] at H
            exact absurd H (by simp)
          ·rw [if_neg c10] at H
           exact absurd H (by simp)
       ·rw [if_neg c8] at H
        have c8b0 : decide (x5_2 < (l0_3.length : Int)) = false := decide_eq_false c8
        clear c8
        have H' := Aside0.mk H
        clear H
        have hcz31_0 : wr.cell? ⟨gp0, 0, none⟩ = some (.int .i64 a0_0) := (blk_cell BK80.out 0).trans rfl
        have hcz31_1 : wr.cell? ⟨gp0, 1, none⟩ = some (.int .i64 a0_1) := (blk_cell BK80.out 1).trans rfl
        have hcz31_2 : wr.cell? ⟨gp0, 2, none⟩ = some (.slice A0_2 l0_2.length c0_2) := (blk_cell BK80.out 2).trans rfl
        have hcz31_3 : wr.cell? ⟨gp0, 3, none⟩ = some (.slice A0_3 l0_3.length c0_3) := (blk_cell BK80.out 3).trans rfl
        have hfz31_0 := blk_frozen BK80.out 0
        have hfz31_1 := blk_frozen BK80.out 1
        have hfz31_2 := blk_frozen BK80.out 2
        have hfz31_3 := blk_frozen BK80.out 3
        go_wp2
        go_roundg k2
        case measure => have := HK1.out; have := HK2.out; omega
        case rel => exact ⟨(x3_2), (x4_2), (by first | rfl | (simp; done) | (simp [*]; done) | (simp [wrap64]; done)), H', ⟨by have := HK1.out; have := HK2.out; omega⟩, ⟨by (with_reducible repeat (first | apply Kd.R_alloc | apply Kd.R_drewN | apply Kd.R_drew)); exact HO_3.out⟩, ⟨by (with_reducible repeat (first | refine blk_drewN ?_ _ | refine blk_drew ?_ | refine blk_alloc ?_ _)); exact BK80.out⟩, ⟨by repeat (first | (with_reducible first | exact HB.out | apply below_alloc | apply pw_below_drewN | apply below_drew1 | refine below_set ?_ GE80.out) | exact HB.out)⟩⟩
    ·replace c7 := Bool.eq_false_iff.mpr c7
     subst c7
     have H1 : (some x3_1) = some r := by rw [if_neg (show ¬ (false = true) by decide)] at H; exact H
     clear H
     have H := H1
     clear H1
     obtain rfl := Option.some.inj H
     simp only [Option.some.injEq, Prod.mk.injEq] at H
     obtain ⟨rfl⟩ := H
     go_wp2
     go_ret
     exact ⟨_, by first | rfl | (simp [errW_none, errW_some] <;> rfl) | (simp [*, errW_none, errW_some] <;> rfl), by (with_reducible repeat (first | apply Kd.R_alloc | apply Kd.R_drewN | apply Kd.R_drew)); exact HO_3.out, by repeat (first | (with_reducible first | exact HB.out | apply below_alloc | apply pw_below_drewN | apply below_drew1 | refine below_set ?_ GE80.out) | exact HB.out)⟩
 ·rw [if_neg c2] at H
  exact absurd H (by simp)
end Go.Proofs.YtbamnonamdpooaaDoor.PC1
namespace Go.Proofs.YtbamnonamdpooaaDoor.PC1
open Go.RowKit Go.Proofs.YtbamnonamdpooaaDoorW.PrintWords Go.Proofs.YtbamnonamdpooaaDoorW.PrintLast Go.Proofs.YtbamnonamdpooaaDoorW.PrintMore Go.Proofs.YtbamnonamdpooaaDoor.PB1
attribute [local go_sem] max2_int min2_int max_two min_two max_three min_three max_four min_four   -- for this text's walks alone
set_option linter.unusedVariables false
set_option linter.unusedSimpArgs false
end Go.Proofs.YtbamnonamdpooaaDoor.PC1
namespace Go.Proofs.YtbamnonamdpooaaDoor.Lv
set_option linter.unusedVariables false
set_option linter.unusedSimpArgs false
open Go.RowKit Go.Proofs.YtbamnonamdpooaaDoorW.PrintWords Go.Proofs.YtbamnonamdpooaaDoorW.PrintLast Go.Proofs.YtbamnonamdpooaaDoorW.PrintMore Go.Proofs.YtbamnonamdpooaaDoor.Tdy Go.Proofs.YtbamnonamdpooaaDoor.Mg Go.Proofs.YtbamnonamdpooaaDoor.Tf Go.Proofs.YtbamnonamdpooaaDoor.Pure Go.Proofs.YtbamnonamdpooaaDoor.PB1 Go.Proofs.YtbamnonamdpooaaDoor.PC1
section
variable (rows : List (List Nat)) (accs : List Bool)
/-- An accepting state is k columns away, or fewer. -/
def liveK : Nat → Nat → Bool
 | 0, q => accs.getD q false
 | k + 1, q => liveK k q || (rows.getD q []).any (liveK k)
def live (q : Nat) : Bool := liveK rows accs rows.length q
end
section
variable {rows : List (List Nat)} {accs : List Bool} {wd : Nat}
theorem liveK_succ {k q : Nat} (h : liveK rows accs k q = true) : liveK rows accs (k + 1) q = true := by simp [liveK, h]
theorem liveK_le {k j q : Nat} (hj : k ≤ j) (h : liveK rows accs k q = true) : liveK rows accs j q = true := by
 induction j with
 | zero => obtain rfl : k = 0 := (by omega); exact h
 | succ j ih =>
  rcases Nat.lt_or_ge k (j + 1) with h1 | h1
  ·exact liveK_succ (ih (by omega))
  ·obtain rfl : k = j + 1 := by omega
   exact h
theorem liveK_step {k q t : Nat} (ht : t ∈ rows.getD q []) (h : liveK rows accs k t = true) : liveK rows accs (k + 1) q = true := by
 simp only [liveK, Bool.or_eq_true, List.any_eq_true]
 exact .inr ⟨t, ht, h⟩
def cnt (rows : List (List Nat)) (accs : List Bool) (k : Nat) : Nat := ((List.range rows.length).filter (liveK rows accs k)).length
theorem filter_grow {p q : Nat → Bool} (hpq : ∀ x, p x = true → q x = true) : ∀ (l : List Nat) , (l.filter p).length ≤ (l.filter q).length ∧ ((∃ x ∈ l, q x = true ∧ p x = false) → (l.filter p).length < (l.filter q).length)
 | [] => ⟨Nat.le_refl _, fun ⟨x, hx, _⟩ => by cases hx⟩
 | a :: l => by
  obtain ⟨h1, h2⟩ := filter_grow hpq l
  cases hp : p a with
  | true =>
   have hq := hpq a hp
   rw [List.filter_cons_of_pos hp, List.filter_cons_of_pos hq, List.length_cons, List.length_cons]
   refine ⟨by omega, fun ⟨x, hx, e1, e2⟩ => ?_⟩
   rcases List.mem_cons.1 hx with rfl | hx
   ·rw [hp] at e2; cases e2
   ·have := h2 ⟨x, hx, e1, e2⟩; omega
  | false =>
   rw [List.filter_cons_of_neg (by simp [hp])]
   cases hq : q a with
   | true =>
    rw [List.filter_cons_of_pos hq, List.length_cons]
    exact ⟨by omega, fun _ => by omega⟩
   | false =>
    rw [List.filter_cons_of_neg (by simp [hq])]
    refine ⟨h1, fun ⟨x, hx, e1, e2⟩ => ?_⟩
    rcases List.mem_cons.1 hx with rfl | hx
    ·rw [hq] at e1; cases e1
    ·exact h2 ⟨x, hx, e1, e2⟩
theorem stable_from {k : Nat} (hcl : ∀ q, q < rows.length → ∀ t ∈ rows.getD q [], t < rows.length) (h : ∀ q, q < rows.length → liveK rows accs (k + 1) q = liveK rows accs k q) : ∀ j q, q < rows.length → liveK rows accs (k + j) q = liveK rows accs k q
 | 0, q, hq => rfl
 | j + 1, q, hq => by
  have ih := stable_from hcl h j
  rw [← h q hq]
  show (liveK rows accs (k + j) q || (rows.getD q []).any (liveK rows accs (k + j))) = (liveK rows accs k q || (rows.getD q []).any (liveK rows accs k))
  rw [ih q hq]
  congr 1
  rw [Bool.eq_iff_iff, List.any_eq_true, List.any_eq_true]
  exact ⟨fun ⟨t, ht, e⟩ => ⟨t, ht, by rw [← ih t (hcl q hq t ht)]; exact e⟩, fun ⟨t, ht, e⟩ => ⟨t, ht, by rw [ih t (hcl q hq t ht)]; exact e⟩⟩
theorem stable_or (hcl : ∀ q, q < rows.length → ∀ t ∈ rows.getD q [], t < rows.length) : ∀ k, (∃ j, j ≤ k ∧ ∀ q, q < rows.length → liveK rows accs (j + 1) q = liveK rows accs j q) ∨ k + 1 ≤ cnt rows accs (k + 1)
 | 0 => by
  by_cases h : ∀ q, q < rows.length → liveK rows accs (0 + 1) q = liveK rows accs 0 q
  ·exact .inl ⟨0, Nat.le_refl _, h⟩
  ·refine .inr ?_
   obtain ⟨q, hq⟩ := Classical.not_forall.1 h
   obtain ⟨hq, hne⟩ := Classical.not_imp.1 hq
   have h1 : liveK rows accs 1 q = true := by
    cases h1 : liveK rows accs (0 + 1) q with
    | true => rfl
    | false =>
     cases h0 : liveK rows accs 0 q with
     | true => rw [liveK_succ h0] at h1; cases h1
     | false => rw [h1, h0] at hne; exact absurd rfl hne
   unfold cnt
   exact List.length_pos_of_mem (List.mem_filter.2 ⟨List.mem_range.2 hq, h1⟩)
 | k + 1 => by
  rcases stable_or hcl k with ⟨j, hj, h⟩ | hc
  ·exact .inl ⟨j, by omega, h⟩
  ·by_cases h : ∀ q, q < rows.length → liveK rows accs (k + 1 + 1) q = liveK rows accs (k + 1) q
   ·exact .inl ⟨k + 1, Nat.le_refl _, h⟩
   ·refine .inr ?_
    obtain ⟨q, hq⟩ := Classical.not_forall.1 h
    obtain ⟨hq, hne⟩ := Classical.not_imp.1 hq
    have h2 : liveK rows accs (k + 1) q = false := by
     cases h0 : liveK rows accs (k + 1) q with
     | true => rw [liveK_succ h0, h0] at hne; exact absurd rfl hne
     | false => rfl
    have h1 : liveK rows accs (k + 1 + 1) q = true := by
     cases h1 : liveK rows accs (k + 1 + 1) q with
     | true => rfl
     | false => rw [h1, h2] at hne; exact absurd rfl hne
    have := (filter_grow (p := liveK rows accs (k + 1)) (q := liveK rows accs (k + 1 + 1)) (fun x => liveK_succ) (List.range rows.length)).2 ⟨q, List.mem_range.2 hq, h1, h2⟩
    unfold cnt at hc ⊢
    omega
/-- As many columns as states are enough. -/
theorem live_all (hcl : ∀ q, q < rows.length → ∀ t ∈ rows.getD q [], t < rows.length) {k q : Nat} (hq : q < rows.length) (h : liveK rows accs k q = true) : live rows accs q = true := by
 have key : ∃ j, j ≤ rows.length ∧ ∀ q, q < rows.length → liveK rows accs (j + 1) q = liveK rows accs j q := by
  rcases stable_or (accs := accs) hcl rows.length with h | h
  ·exact h
  ·exfalso
   unfold cnt at h
   have := List.length_filter_le (liveK rows accs (rows.length + 1)) (List.range rows.length)
   rw [List.length_range] at this
   omega
 obtain ⟨j, hj, hs⟩ := key
 have h1 := liveK_le (k := k) (j := j + k) (by omega) h
 rw [stable_from hcl hs k q hq] at h1
 exact liveK_le hj h1
theorem live_step (hcl : ∀ q, q < rows.length → ∀ t ∈ rows.getD q [], t < rows.length) {q t : Nat} (hq : q < rows.length) (ht : t ∈ rows.getD q []) (h : live rows accs t = true) : live rows accs q = true := live_all hcl hq (liveK_step ht h)
/-! ### far -/
theorem rd_rowC {q : Nat} (hq : q < rows.length) : PC1.rd_L1 (rows.map ints) (q : Int) = ints rows[q] := by simp [PC1.rd_L1, List.getD_eq_getElem?_getD, hq]
theorem rd_rowD {q : Nat} (hq : q < rows.length) : PC1.rd_L3 (rows.map ints) (q : Int) = ints rows[q] := by simp [PC1.rd_L3, List.getD_eq_getElem?_getD, hq]
def dist (rows : List (List Nat)) (accs : List Bool) : Nat → Nat → Int
 | 0, q => if liveK rows accs 0 q then 0 else -1
 | k + 1, q => if 0 ≤ dist rows accs k q then dist rows accs k q else if liveK rows accs (k + 1) q then ((k + 1 : Nat) : Int) else -1
theorem dist_bd : ∀ k q, -1 ≤ dist rows accs k q ∧ dist rows accs k q ≤ (k : Int)
 | 0, q => by unfold dist; split <;> omega
 | k + 1, q => by
  have := dist_bd k q
  unfold dist
  split
  ·omega
  ·split <;> omega
theorem dist_live : ∀ k q, 0 ≤ dist rows accs k q ↔ liveK rows accs k q = true
 | 0, q => by unfold dist; split <;> simp_all
 | k + 1, q => by
  have ih := dist_live k q
  unfold dist
  split
  ·rename_i h
   exact ⟨fun _ => liveK_succ (ih.1 h), fun _ => h⟩
  ·split
   ·rename_i h; exact ⟨fun _ => h, fun _ => by omega⟩
   ·rename_i h; exact ⟨fun h2 => by omega, fun h2 => absurd h2 h⟩
theorem dist_at : ∀ k q (j : Nat), dist rows accs k q = (j : Int) → liveK rows accs j q = true
 | 0, q, j, h => by
  have := dist_bd (rows := rows) (accs := accs) 0 q
  obtain rfl : j = 0 := by omega
  exact (dist_live 0 q).1 (by omega)
 | k + 1, q, j, h => by
  unfold dist at h
  split at h
  ·exact dist_at k q j h
  ·split at h
   ·obtain rfl : k + 1 = j := by omega
    assumption
   ·omega
/-- Whether the round number s + 1 reaches state i. -/
theorem dist_hit {s i t : Nat} (hni : ¬ 0 ≤ dist rows accs s i) (ht : t ∈ rows.getD i []) (v : Int) (hv : v = dist rows accs (s + 1) t ∨ v = dist rows accs s t) : v = (s : Int) ↔ liveK rows accs s t = true := by
 constructor
 ·rintro rfl
  rcases hv with hv | hv
  ·exact dist_at _ _ _ hv.symm
  ·exact dist_at _ _ _ hv.symm
 ·intro h
  have h0 := (dist_live s t).2 h
  have hb := dist_bd (rows := rows) (accs := accs) s t
  have e : dist rows accs (s + 1) t = dist rows accs s t := by
   show (if 0 ≤ dist rows accs s t then dist rows accs s t else _) = _
   rw [if_pos h0]
  have e2 : v = dist rows accs s t := by rcases hv with hv | hv <;> rw [hv]; exact e
  rw [e2]
  obtain ⟨j, hj⟩ : ∃ j : Nat, dist rows accs s t = (j : Int) := ⟨(dist rows accs s t).toNat, by omega⟩
  rw [hj]
  rcases Nat.lt_or_ge j s with h1 | h1
  ·exfalso
   apply hni
   refine (dist_live s i).2 (liveK_le (k := j + 1) (by omega) (liveK_step ht (dist_at _ _ _ hj)))
  ·omega
/-- The numbers behind round s, for the first i states behind round s + 1. -/
def mixL (rows : List (List Nat)) (accs : List Bool) (s i : Nat) : List Int := (List.range rows.length).map (fun q => if q < i then dist rows accs (s + 1) q else dist rows accs s q)
def distL (rows : List (List Nat)) (accs : List Bool) (s : Nat) : List Int := (List.range rows.length).map (dist rows accs s)
theorem mixL_len {s i : Nat} : (mixL rows accs s i).length = rows.length := by simp [mixL]
theorem mixL_at {s i q : Nat} (hq : q < rows.length) : rd (mixL rows accs s i) (q : Int) = if q < i then dist rows accs (s + 1) q else dist rows accs s q := by
 rw [rd_nat _ _ (by rw [mixL_len]; exact hq)]
 simp [mixL]
theorem mixL_zero {s : Nat} : mixL rows accs s 0 = distL rows accs s := by simp [mixL, distL]
theorem mixL_all {s : Nat} : mixL rows accs s rows.length = distL rows accs (s + 1) := by
 unfold mixL distL
 exact List.map_congr_left (fun q hq => by rw [if_pos (List.mem_range.1 hq)])
theorem mixL_set {s i : Nat} (hi : i < rows.length) {v : Int} (hv : v = dist rows accs (s + 1) i) : (mixL rows accs s i).set i v = mixL rows accs s (i + 1) := by
 apply List.ext_getElem (by rw [List.length_set, mixL_len, mixL_len])
 intro q h1 h2
 rw [List.length_set, mixL_len] at h1
 by_cases e : q = i
 ·subst e
  rw [List.getElem_set_self]
  simp [mixL, hv]
 ·rw [List.getElem_set_ne (fun e' => e e'.symm)]
  simp only [mixL, List.getElem_map, List.getElem_range]
  by_cases h3 : q < i
  ·rw [if_pos h3, if_pos (by omega)]
  ·rw [if_neg h3, if_neg (by omega)]
theorem mixL_skip {s i : Nat} (hi : i < rows.length) (h : dist rows accs s i = dist rows accs (s + 1) i) : mixL rows accs s i = mixL rows accs s (i + 1) := by
 have := mixL_set (accs := accs) (s := s) hi h
 rw [← this]
 apply List.ext_getElem (by rw [List.length_set])
 intro q h1 h2
 rw [List.length_set] at h2
 by_cases e : q = i
 ·subst e
  rw [List.getElem_set_self]
  simp [mixL]
 ·rw [List.getElem_set_ne (fun e' => e e'.symm)]
theorem far_row (hcl : Closed wd rows accs) (hwd : wd ≤ 30) (hn : rows.length ≤ 1000000) (a0 a1 : Int) (s i : Nat) (hi : i < rows.length) (hs : s < rows.length) (hneg : ¬ 0 ≤ dist rows accs s i) (r : List Int)
  (hend : Ev (fun k => impl_machine_far.l2 k (mixL rows accs s (i + 1)) ((s + 1 : Nat) : Int) (rows.map ints) (rows.length : Int) ((i : Int) + 1) a0 a1 accs (rows.map ints)) r) :
  ∀ d c, d + c = rows[i].length → (∀ x, x < c → ∀ h : x < rows[i].length, liveK rows accs s rows[i][x] = false) →
   Ev (fun k => impl_machine_far.l3 k (mixL rows accs s i) ((s + 1 : Nat) : Int) (i : Int) (rows.map ints) (rows.length : Int) (i : Int) (ints rows[i]) (rows[i].length : Int) (c : Int) a0 a1 accs (rows.map ints)) r := by
 have hgd : rows.getD i [] = rows[i] := by simp [List.getD_eq_getElem?_getD, hi]
 have hsucc : dist rows accs (s + 1) i = if liveK rows accs (s + 1) i then ((s + 1 : Nat) : Int) else -1 := by
  show (if 0 ≤ dist rows accs s i then _ else _) = _
  rw [if_neg hneg]
 intro d
 induction d with
 | zero =>
  intro c hc hno
  obtain rfl : c = rows[i].length := by omega
  have hl : liveK rows accs (s + 1) i = false := by
   cases h : liveK rows accs (s + 1) i with
   | false => rfl
   | true =>
    simp only [liveK, Bool.or_eq_true, List.any_eq_true, hgd] at h
    rcases h with h | ⟨t, ht, e⟩
    ·exact absurd ((dist_live s i).2 h) hneg
    ·obtain ⟨x, hx, rfl⟩ := List.getElem_of_mem ht
     rw [hno x hx hx] at e
     cases e
  have hb := dist_bd (rows := rows) (accs := accs) s i
  rw [hl] at hsucc
  rw [← mixL_skip hi (by rw [hsucc]; simp; omega)] at hend
  refine ev_step (fun k => ?_) hend
  simp only [impl_machine_far.l3]
  rw [if_neg (by omega), wrap_up (by omega)]
 | succ d ih =>
  intro c hc hno
  have hcr : c < rows[i].length := by omega
  have hwi := hcl.wide _ (List.getElem_mem hi)
  have htn : rows[i][c] < rows.length := hcl.lt _ (List.getElem_mem hi) _ (List.getElem_mem hcr)
  have htm : rows[i][c] ∈ rows.getD i [] := by rw [hgd]; exact List.getElem_mem hcr
  have hw : wrap64 (((s + 1 : Nat) : Int) - 1) = (s : Int) := by rw [wrap_id (by omega) (by omega)]; omega
  have hv := dist_hit (accs := accs) hneg htm (rd (mixL rows accs s i) (rows[i][c] : Int)) (by rw [mixL_at htn]; split <;> simp)
  have hml : ((mixL rows accs s i).length : Int) = (rows.length : Int) := by rw [mixL_len]
  cases hh : liveK rows accs s rows[i][c] with
  | true =>
   have h1 : liveK rows accs (s + 1) i = true := liveK_step htm hh
   rw [h1] at hsucc
   rw [← mixL_set (v := ((s + 1 : Nat) : Int)) hi (by rw [hsucc]; simp)] at hend
   refine ev_step (fun k => ?_) hend
   simp only [impl_machine_far.l3]
   rw [if_pos (by omega), if_pos (by omega), if_pos (by rw [ilen]; omega), rd_int hcr, if_pos (by omega), if_pos (by rw [hml]; omega), hw, if_pos (hv.2 hh), if_pos (by omega), if_pos (by rw [hml]; omega), wrap_up (by omega), Int.toNat_natCast]
  | false =>
   have hne : ¬ rd (mixL rows accs s i) (rows[i][c] : Int) = (s : Int) := fun e => by rw [hv.1 e] at hh; cases hh
   have := ih (c + 1) (by omega) (fun x hx hxl => by
    by_cases e : x = c
    ·subst e; exact hh
    ·exact hno x (by omega) hxl)
   refine ev_step (f := fun k => impl_machine_far.l3 k (mixL rows accs s i) ((s + 1 : Nat) : Int) (i : Int) (rows.map ints) (rows.length : Int) (i : Int) (ints rows[i]) (rows[i].length : Int) ((c : Int) + 1) a0 a1 accs (rows.map ints)) (fun k => ?_) (by simpa using this)
   simp only [impl_machine_far.l3]
   rw [if_pos (by omega), if_pos (by omega), if_pos (by rw [ilen]; omega), rd_int hcr, if_pos (by omega), if_pos (by rw [hml]; omega), hw, if_neg hne, wrap_up (by omega)]
theorem far_round (hcl : Closed wd rows accs) (hwd : wd ≤ 30) (hn : rows.length ≤ 1000000) (a0 a1 : Int) (s : Nat) (hs : s < rows.length) (r : List Int)
  (hend : Ev (fun k => impl_machine_far.l1 k (distL rows accs (s + 1)) ((s : Int) + 2) a0 a1 accs (rows.map ints)) r) :
  ∀ d i, d + i = rows.length → Ev (fun k => impl_machine_far.l2 k (mixL rows accs s i) ((s + 1 : Nat) : Int) (rows.map ints) (rows.length : Int) (i : Int) a0 a1 accs (rows.map ints)) r := by
 intro d
 have hl : ((rows.map ints).length : Int) = (rows.length : Int) := by rw [List.length_map]
 induction d with
 | zero =>
  intro i hi
  obtain rfl : i = rows.length := by omega
  rw [mixL_all]
  refine ev_step (fun k => ?_) hend
  simp only [impl_machine_far.l2]
  have e : wrap64 (((s + 1 : Nat) : Int) + 1) = (s : Int) + 2 := by rw [wrap_id (by omega) (by omega)]; omega
  rw [if_neg (by omega), e]
 | succ d ih =>
  intro i hi
  have hir : i < rows.length := by omega
  have hml : ((mixL rows accs s i).length : Int) = (rows.length : Int) := by rw [mixL_len]
  have hnext := ih (i + 1) (by omega)
  have hrd : rd (mixL rows accs s i) (i : Int) = dist rows accs s i := by rw [mixL_at hir, if_neg (by omega)]
  by_cases h0 : 0 ≤ dist rows accs s i
  ·have hd : dist rows accs s i = dist rows accs (s + 1) i := by
    show _ = (if 0 ≤ dist rows accs s i then _ else _)
    rw [if_pos h0]
   refine ev_step (f := fun k => impl_machine_far.l2 k (mixL rows accs s i) ((s + 1 : Nat) : Int) (rows.map ints) (rows.length : Int) ((i : Int) + 1) a0 a1 accs (rows.map ints)) (fun k => ?_) (by rw [mixL_skip hir hd]; simpa using hnext)
   simp only [impl_machine_far.l2]
   rw [if_pos (by omega), if_pos (by omega), if_pos (by rw [hl]; omega), if_pos (by rw [hml]; omega), hrd, if_pos h0, wrap_up (by omega)]
  ·have := far_row hcl hwd hn a0 a1 s i hir hs h0 r (by simpa using hnext) rows[i].length 0 (by omega) (fun x hx => by omega)
   refine ev_step (fun k => ?_) this
   simp only [impl_machine_far.l2]
   rw [if_pos (by omega), if_pos (by omega), if_pos (by rw [hl]; omega), if_pos (by rw [hml]; omega), hrd, if_neg h0, rd_rowC hir, ints_length]
   rfl
theorem far_steps (hcl : Closed wd rows accs) (hwd : wd ≤ 30) (hn : rows.length ≤ 1000000) (a0 a1 : Int) : ∀ d s, d + s = rows.length → Ev (fun k => impl_machine_far.l1 k (distL rows accs s) ((s : Int) + 1) a0 a1 accs (rows.map ints)) (distL rows accs rows.length) := by
 intro d
 have hdl : ∀ s, ((distL rows accs s).length : Int) = (rows.length : Int) := fun s => by simp [distL]
 induction d with
 | zero =>
  intro s hs
  obtain rfl : s = rows.length := by omega
  refine ev_const (fun k => ?_)
  simp only [impl_machine_far.l1]
  rw [if_neg (by rw [hdl]; omega)]
 | succ d ih =>
  intro s hs
  have h1 := ih (s + 1) (by omega)
  have e : (((s + 1 : Nat) : Int)) + 1 = (s : Int) + 2 := by omega
  rw [e] at h1
  have h2 := far_round hcl hwd hn a0 a1 s (by omega) _ h1 rows.length 0 (by omega)
  rw [mixL_zero] at h2
  refine ev_step (fun k => ?_) h2
  simp only [impl_machine_far.l1]
  rw [if_pos (by rw [hdl]; omega), List.length_map]
  rfl
theorem far_ev (hcl : Closed wd rows accs) (hwd : wd ≤ 30) (hn : rows.length ≤ 1000000) (a0 a1 : Int) : Ev (fun k => impl_machine_far.f k a0 a1 accs (rows.map ints)) (distL rows accs rows.length) := by
 have hlen := hcl.len
 have h0 := far_steps hcl hwd hn a0 a1 rows.length 0 (by omega)
 have hs : ∀ i, i ≤ accs.length → ((accs.take i).map (fun b => if b = true then (0 : Int) else -1) ++ List.replicate (accs.length - i) 0).length = accs.length := fun i hi => by simp; omega
 have h1 := ev_up (fun k i x => impl_machine_far.l0 k x accs (accs.length : Int) i a0 a1 accs (rows.map ints)) accs.length (fun i => (accs.take i).map (fun b => if b = true then (0 : Int) else -1) ++ List.replicate (accs.length - i) 0) (distL rows accs rows.length) ?_ ?_
 ·refine Ev.congr (fun k => ?_) h1
  unfold impl_machine_far.f
  rw [if_pos (by omega), if_pos (by omega), Int.toNat_natCast]
  simp
 ·refine ev_step (f := fun k => impl_machine_far.l1 k (distL rows accs 0) (((0 : Nat) : Int) + 1) a0 a1 accs (rows.map ints)) (fun k => ?_) h0
  simp only [impl_machine_far.l0]
  have e : (accs.take accs.length).map (fun b => if b = true then (0 : Int) else -1) ++ List.replicate (accs.length - accs.length) 0 = distL rows accs 0 := by
   rw [List.take_length, Nat.sub_self, List.replicate_zero, List.append_nil]
   apply List.ext_getElem (by simp [distL, hlen])
   intro q hq1 hq2
   rw [List.length_map] at hq1
   simp [distL, dist, liveK, List.getD_eq_getElem?_getD, hq1]
  rw [if_neg (by omega), e]
  rfl
 ·intro i hi h
  have hset : ((accs.take i).map (fun b => if b = true then (0 : Int) else -1) ++ List.replicate (accs.length - i) 0).set i (if accs[i] = true then 0 else -1) = (accs.take (i + 1)).map (fun b => if b = true then (0 : Int) else -1) ++ List.replicate (accs.length - (i + 1)) 0 := by
   have e3 : accs.length - i = (accs.length - (i + 1)) + 1 := by omega
   have hl : ((accs.take i).map (fun b => if b = true then (0 : Int) else -1)).length = i := by rw [List.length_map, List.length_take]; omega
   rw [e3, List.replicate_succ, List.set_append_right _ _ (by omega), hl, Nat.sub_self, List.set_cons_zero, List.take_succ_eq_append_getElem hi, List.map_append, List.append_assoc]
   rfl
  refine ev_step (fun k => ?_) h
  simp only [impl_machine_far.l0]
  rw [if_pos (by omega), if_pos (by omega), if_pos (by omega), rdOf_nat false accs i hi, ← hset]
  cases ha : accs[i] with
  | true =>
   rw [if_pos rfl, wrap_up (by omega)]
   congr 1
   apply List.ext_getElem (by rw [List.length_set])
   intro q h1 h2
   by_cases e : q = i
   ·subst e
    have hl : ((accs.take q).map (fun b => if b = true then (0 : Int) else -1)).length = q := by rw [List.length_map, List.length_take]; omega
    rw [List.getElem_set_self, List.getElem_append_right (by omega)]
    simp
   ·rw [List.getElem_set_ne (fun e' => e e'.symm)]
  | false =>
   rw [if_neg (by simp), if_pos (by rw [hs i (by omega)]; omega), wrap_up (by omega), Int.toNat_natCast]
   rfl
/-! ### l07Live -/
def stepC (q t : Nat) (p : List Bool × Bool) : List Bool × Bool := if p.1.getD t false then (if p.1.getD q false then p else (p.1.set q true, true)) else p
def rowS (q : Nat) : List Nat → List Bool × Bool → List Bool × Bool
 | [], p => p
 | t :: ts, p => rowS q ts (stepC q t p)
def passS (rows : List (List Nat)) : List Nat → List Bool × Bool → List Bool × Bool
 | [], p => p
 | q :: qs, p => passS rows qs (rowS q (rows.getD q []) p)
def fixS (rows : List (List Nat)) : Nat → List Bool → Option (List Bool)
 | 0, _ => none
 | f + 1, L => if (passS rows (List.range rows.length) (L, false)).2 then fixS rows f (passS rows (List.range rows.length) (L, false)).1 else some (passS rows (List.range rows.length) (L, false)).1
structure Snd (rows : List (List Nat)) (accs : List Bool) (L : List Bool) : Prop where
 len : L.length = rows.length
 acc : ∀ q, q < rows.length → accs.getD q false = true → L.getD q false = true
 snd : ∀ q, q < rows.length → L.getD q false = true → live rows accs q = true
def nT (L : List Bool) : Nat := (L.filter id).length
theorem nT_set : ∀ (L : List Bool) (q : Nat), q < L.length → L.getD q false = false → nT (L.set q true) = nT L + 1
 | [], q, h, _ => by simp at h
 | a :: L, 0, _, h => by
  obtain rfl : a = false := by simpa using h
  simp [nT]
 | a :: L, q + 1, hq, h => by
  have := nT_set L q (by simpa using hq) (by simpa using h)
  unfold nT at this ⊢
  cases a <;> simp_all
theorem getD_set (L : List Bool) (q x : Nat) (hq : q < L.length) : (L.set q true).getD x false = if x = q then true else L.getD x false := by
 by_cases e : x = q
 ·subst e
  simp [List.getD_eq_getElem?_getD, hq]
 ·rw [List.getD_eq_getElem?_getD, List.getElem?_set_ne (fun e' => e e'.symm), if_neg e, List.getD_eq_getElem?_getD]
section
variable {rows : List (List Nat)} {accs : List Bool} {wd : Nat}
theorem stepC_spec (hcl : ∀ q, q < rows.length → ∀ t ∈ rows.getD q [], t < rows.length) {q t : Nat} (hq : q < rows.length) (ht : t ∈ rows.getD q []) {p : List Bool × Bool} (h : Snd rows accs p.1) :
  Snd rows accs (stepC q t p).1 ∧ nT p.1 ≤ nT (stepC q t p).1 ∧ ((stepC q t p).2 = true → p.2 = true ∨ nT p.1 < nT (stepC q t p).1) ∧ ((stepC q t p).2 = false → stepC q t p = p ∧ (p.1.getD t false = true → p.1.getD q false = true)) := by
 unfold stepC
 split
 ·rename_i h1
  split
  ·rename_i h2
   exact ⟨h, Nat.le_refl _, .inl, fun _ => ⟨rfl, fun _ => h2⟩⟩
  ·rename_i h2
   have hql : q < p.1.length := by rw [h.len]; exact hq
   have h2' : p.1.getD q false = false := by simpa using h2
   refine ⟨⟨by rw [List.length_set]; exact h.len, fun x hx hax => ?_, fun x hx hlx => ?_⟩, by simp only [nT_set _ _ hql h2']; omega, fun _ => .inr (by simp only [nT_set _ _ hql h2']; omega), fun e => by cases e⟩
   ·simp only [getD_set _ _ _ hql]
    split
    ·rfl
    ·exact h.acc x hx hax
   ·simp only [getD_set _ _ _ hql] at hlx
    split at hlx
    ·rename_i e
     rw [e]
     exact live_step hcl hq ht (h.snd t (hcl q hq t ht) h1)
    ·exact h.snd x hx hlx
 ·rename_i h1
  exact ⟨h, Nat.le_refl _, .inl, fun _ => ⟨rfl, fun e => absurd e h1⟩⟩
theorem rowS_spec (hcl : ∀ q, q < rows.length → ∀ t ∈ rows.getD q [], t < rows.length) {q : Nat} (hq : q < rows.length) : ∀ (ts : List Nat) (p : List Bool × Bool), (∀ t ∈ ts, t ∈ rows.getD q []) → Snd rows accs p.1 →
  Snd rows accs (rowS q ts p).1 ∧ nT p.1 ≤ nT (rowS q ts p).1 ∧ ((rowS q ts p).2 = true → p.2 = true ∨ nT p.1 < nT (rowS q ts p).1) ∧ ((rowS q ts p).2 = false → rowS q ts p = p ∧ ∀ t ∈ ts, p.1.getD t false = true → p.1.getD q false = true)
 | [], p, _, h => ⟨h, Nat.le_refl _, .inl, fun _ => ⟨rfl, fun t ht => by cases ht⟩⟩
 | t :: ts, p, hts, h => by
  obtain ⟨a1, a2, a3, a4⟩ := stepC_spec hcl hq (hts t (List.mem_cons_self ..)) h
  obtain ⟨b1, b2, b3, b4⟩ := rowS_spec hcl hq ts (stepC q t p) (fun x hx => hts x (List.mem_cons_of_mem _ hx)) a1
  have e : rowS q (t :: ts) p = rowS q ts (stepC q t p) := rfl
  rw [e]
  refine ⟨b1, by omega, fun h1 => ?_, fun h1 => ?_⟩
  ·rcases b3 h1 with h2 | h2
   ·rcases a3 h2 with h3 | h3
    ·exact .inl h3
    ·exact .inr (by omega)
   ·exact .inr (by omega)
  ·obtain ⟨c1, c2⟩ := b4 h1
   rw [c1] at h1
   obtain ⟨d1, d2⟩ := a4 h1
   rw [d1] at c1 c2
   rw [d1]
   refine ⟨c1, fun x hx => ?_⟩
   rcases List.mem_cons.1 hx with rfl | hx
   ·exact d2
   ·exact c2 x hx
theorem passS_spec (hcl : ∀ q, q < rows.length → ∀ t ∈ rows.getD q [], t < rows.length) : ∀ (qs : List Nat) (p : List Bool × Bool), (∀ q ∈ qs, q < rows.length) → Snd rows accs p.1 →
  Snd rows accs (passS rows qs p).1 ∧ nT p.1 ≤ nT (passS rows qs p).1 ∧ ((passS rows qs p).2 = true → p.2 = true ∨ nT p.1 < nT (passS rows qs p).1) ∧ ((passS rows qs p).2 = false → passS rows qs p = p ∧ ∀ q ∈ qs, ∀ t ∈ rows.getD q [], p.1.getD t false = true → p.1.getD q false = true)
 | [], p, _, h => ⟨h, Nat.le_refl _, .inl, fun _ => ⟨rfl, fun t ht => by cases ht⟩⟩
 | q :: qs, p, hqs, h => by
  obtain ⟨a1, a2, a3, a4⟩ := rowS_spec hcl (hqs q (List.mem_cons_self ..)) (rows.getD q []) p (fun t ht => ht) h
  obtain ⟨b1, b2, b3, b4⟩ := passS_spec hcl qs (rowS q (rows.getD q []) p) (fun x hx => hqs x (List.mem_cons_of_mem _ hx)) a1
  have e : passS rows (q :: qs) p = passS rows qs (rowS q (rows.getD q []) p) := rfl
  rw [e]
  refine ⟨b1, by omega, fun h1 => ?_, fun h1 => ?_⟩
  ·rcases b3 h1 with h2 | h2
   ·rcases a3 h2 with h3 | h3
    ·exact .inl h3
    ·exact .inr (by omega)
   ·exact .inr (by omega)
  ·obtain ⟨c1, c2⟩ := b4 h1
   rw [c1] at h1
   obtain ⟨d1, d2⟩ := a4 h1
   rw [d1] at c1 c2
   rw [d1]
   refine ⟨c1, fun x hx => ?_⟩
   rcases List.mem_cons.1 hx with rfl | hx
   ·exact d2
   ·exact c2 x hx
theorem nT_le (L : List Bool) : nT L ≤ L.length := List.length_filter_le ..
theorem fixS_spec (hcl : ∀ q, q < rows.length → ∀ t ∈ rows.getD q [], t < rows.length) : ∀ (f : Nat) (L : List Bool), Snd rows accs L → rows.length < f + nT L → ∃ R, fixS rows f L = some R ∧ Snd rows accs R ∧ ∀ q, q < rows.length → ∀ t ∈ rows.getD q [], R.getD t false = true → R.getD q false = true
 | 0, L, h, hf => by have := nT_le L; have := h.len; omega
 | f + 1, L, h, hf => by
  obtain ⟨a1, a2, a3, a4⟩ := passS_spec hcl (List.range rows.length) (L, false) (fun q hq => List.mem_range.1 hq) h
  unfold fixS
  split
  ·rename_i h1
   rcases a3 h1 with h2 | h2
   ·cases h2
   ·exact fixS_spec hcl f _ a1 (by simp only at h2; omega)
  ·rename_i h1
   obtain ⟨c1, c2⟩ := a4 (by simpa using h1)
   refine ⟨_, rfl, a1, fun q hq => ?_⟩
   rw [c1]
   exact c2 q (List.mem_range.2 hq)
theorem fixS_live (hcl : ∀ q, q < rows.length → ∀ t ∈ rows.getD q [], t < rows.length) {R : List Bool} (h : Snd rows accs R) (hc : ∀ q, q < rows.length → ∀ t ∈ rows.getD q [], R.getD t false = true → R.getD q false = true) : R = (List.range rows.length).map (live rows accs) := by
 have key : ∀ k q, q < rows.length → liveK rows accs k q = true → R.getD q false = true := by
  intro k
  induction k with
  | zero => intro q hq e; exact h.acc q hq e
  | succ k ih =>
   intro q hq e
   simp only [liveK, Bool.or_eq_true, List.any_eq_true] at e
   rcases e with e | ⟨t, ht, e⟩
   ·exact ih q hq e
   ·exact hc q hq t ht (ih t (hcl q hq t ht) e)
 apply List.ext_getElem (by rw [h.len]; simp)
 intro q h1 h2
 have hq : q < rows.length := by rw [h.len] at h1; exact h1
 have e : R.getD q false = R[q] := by simp [List.getD_eq_getElem?_getD, h1]
 rw [List.getElem_map, List.getElem_range, ← e, Bool.eq_iff_iff]
 exact ⟨h.snd q hq, key _ q hq⟩
theorem live_row (hcl : Closed wd rows accs) (hwd : wd ≤ 30) (hn : rows.length ≤ 1000000) (a0 a1 : Int) (q : Nat) (hq : q < rows.length) (r : List Bool) : ∀ d c (p : List Bool × Bool), d + c = rows[q].length → p.1.length = rows.length →
  Ev (fun k => spec_l07Live.l1 k (rowS q (rows[q].drop c) p).1 (rowS q (rows[q].drop c) p).2 ((q : Int) + 1) a0 a1 accs (rows.map ints)) r → Ev (fun k => spec_l07Live.l2 k p.1 p.2 (q : Int) (c : Int) a0 a1 accs (rows.map ints)) r := by
 have hl : ((rows.map ints).length : Int) = (rows.length : Int) := by rw [List.length_map]
 have hwi := hcl.wide _ (List.getElem_mem hq)
 intro d
 induction d with
 | zero =>
  intro c p hc hpl h
  obtain rfl : c = rows[q].length := by omega
  rw [List.drop_length] at h
  refine ev_step (fun k => ?_) h
  simp only [spec_l07Live.l2]
  rw [if_pos (by omega), if_pos (by rw [hl]; omega), rd_rowD hq, if_neg (by rw [ilen]; omega), wrap_up (by omega)]
  rfl
 | succ d ih =>
  intro c p hc hpl h
  have hcr : c < rows[q].length := by omega
  have htn : rows[q][c] < rows.length := hcl.lt _ (List.getElem_mem hq) _ (List.getElem_mem hcr)
  have hdr : rows[q].drop c = rows[q][c] :: rows[q].drop (c + 1) := List.drop_eq_getElem_cons hcr
  rw [hdr] at h
  have hsl : (stepC q rows[q][c] p).1.length = rows.length := by
   unfold stepC
   split
   ·split
    ·exact hpl
    ·rw [List.length_set]; exact hpl
   ·exact hpl
  have h2 := ih (c + 1) (stepC q rows[q][c] p) (by omega) hsl h
  have et : rdOf false p.1 (rows[q][c] : Int) = p.1.getD rows[q][c] false := by unfold rdOf; simp
  have eq_ : rdOf false p.1 (q : Int) = p.1.getD q false := by unfold rdOf; simp
  have hpl2 : ((p.1.length : Nat) : Int) = (rows.length : Int) := by rw [hpl]
  have e1 : ((c + 1 : Nat) : Int) = (c : Int) + 1 := by omega
  rw [e1] at h2
  refine ev_step (fun k => ?_) h2
  simp only [spec_l07Live.l2]
  rw [if_pos (by omega), if_pos (by rw [hl]; omega), rd_rowD hq, if_pos (by rw [ilen]; omega), if_pos (by omega), rd_int hcr, if_pos (by omega), if_pos (by rw [hpl2]; omega), et, wrap_up (by omega), eq_, Int.toNat_natCast]
  unfold stepC
  by_cases h3 : p.1.getD rows[q][c] false = true
  ·rw [if_pos h3, if_pos h3, if_pos (by rw [hpl2]; omega)]
   by_cases h4 : p.1.getD q false = true
   ·rw [if_pos h4, if_pos h4]
   ·rw [if_neg h4, if_neg h4]
  ·rw [if_neg h3, if_neg h3]
theorem rowS_len (q : Nat) : ∀ (ts : List Nat) (p : List Bool × Bool), (rowS q ts p).1.length = p.1.length
 | [], p => rfl
 | t :: ts, p => by
  show (rowS q ts (stepC q t p)).1.length = _
  rw [rowS_len q ts]
  unfold stepC
  split
  ·split
   ·rfl
   ·rw [List.length_set]
  ·rfl
theorem live_pass (hcl : Closed wd rows accs) (hwd : wd ≤ 30) (hn : rows.length ≤ 1000000) (a0 a1 : Int) (r : List Bool) : ∀ d q (p : List Bool × Bool), d + q = rows.length → p.1.length = rows.length →
  Ev (fun k => spec_l07Live.l0 k (passS rows ((List.range rows.length).drop q) p).1 (passS rows ((List.range rows.length).drop q) p).2 a0 a1 accs (rows.map ints)) r → Ev (fun k => spec_l07Live.l1 k p.1 p.2 (q : Int) a0 a1 accs (rows.map ints)) r := by
 have hl : ((rows.map ints).length : Int) = (rows.length : Int) := by rw [List.length_map]
 intro d
 induction d with
 | zero =>
  intro q p hd hpl h
  obtain rfl : q = rows.length := by omega
  rw [List.drop_of_length_le (by simp)] at h
  refine ev_step (fun k => ?_) h
  simp only [spec_l07Live.l1]
  rw [if_neg (by rw [hl]; omega)]
  rfl
 | succ d ih =>
  intro q p hd hpl h
  have hq : q < rows.length := by omega
  have hdr : (List.range rows.length).drop q = q :: (List.range rows.length).drop (q + 1) := by
   rw [List.drop_eq_getElem_cons (by simpa using hq)]; simp
  rw [hdr] at h
  have hg : rows.getD q [] = rows[q] := by simp [List.getD_eq_getElem?_getD, hq]
  have h' : Ev (fun k => spec_l07Live.l0 k (passS rows ((List.range rows.length).drop (q + 1)) (rowS q rows[q] p)).1 (passS rows ((List.range rows.length).drop (q + 1)) (rowS q rows[q] p)).2 a0 a1 accs (rows.map ints)) r := by rw [← hg]; exact h
  have h2 := ih (q + 1) (rowS q rows[q] p) (by omega) (by rw [rowS_len]; exact hpl) h'
  have h3 := live_row hcl hwd hn a0 a1 q hq r rows[q].length 0 p (by omega) hpl (by simpa using h2)
  refine ev_step (fun k => ?_) h3
  simp only [spec_l07Live.l1]
  rw [if_pos (by rw [hl]; omega)]
  rfl
theorem passS_len : ∀ (qs : List Nat) (p : List Bool × Bool), (passS rows qs p).1.length = p.1.length
 | [], p => rfl
 | q :: qs, p => by
  show (passS rows qs (rowS q (rows.getD q []) p)).1.length = _
  rw [passS_len qs, rowS_len]
theorem live_fix (hcl : Closed wd rows accs) (hwd : wd ≤ 30) (hn : rows.length ≤ 1000000) (a0 a1 : Int) : ∀ (f : Nat) (L R : List Bool), L.length = rows.length → fixS rows f L = some R → Ev (fun k => spec_l07Live.l0 k L true a0 a1 accs (rows.map ints)) R
 | 0, _, _, _, h => by simp [fixS] at h
 | f + 1, L, R, hL, h => by
  refine ev_step (f := fun k => spec_l07Live.l1 k L false 0 a0 a1 accs (rows.map ints)) (fun k => ?_) (live_pass hcl hwd hn a0 a1 R rows.length 0 (L, false) (by omega) hL ?_)
  ·simp only [spec_l07Live.l0]
   rw [if_pos trivial]
  ·rw [List.drop_zero]
   unfold fixS at h
   split at h
   ·rename_i h1
    rw [h1]
    exact live_fix hcl hwd hn a0 a1 f _ R (by rw [passS_len]; exact hL) h
   ·rename_i h1
    have e := Option.some.inj h
    have h2 : (passS rows (List.range rows.length) (L, false)).2 = false := by simpa using h1
    rw [h2, e]
    refine ev_const (fun k => ?_)
    simp only [spec_l07Live.l0]
    rw [if_neg (by simp)]
theorem live_ev (hcl : Closed wd rows accs) (hwd : wd ≤ 30) (hn : rows.length ≤ 1000000) (a0 a1 : Int) : Ev (fun k => spec_l07Live.f k a0 a1 accs (rows.map ints)) ((List.range rows.length).map (live rows accs)) := by
 have hlen := hcl.len
 have hc : ∀ q, q < rows.length → ∀ t ∈ rows.getD q [], t < rows.length := fun q hq t ht => by
  have e : rows.getD q [] = rows[q] := by simp [List.getD_eq_getElem?_getD, hq]
  rw [e] at ht
  exact hcl.lt _ (List.getElem_mem hq) _ ht
 have hs : Snd rows accs accs := ⟨hlen.symm, fun q _ h => h, fun q hq h => live_all hc hq (k := 0) h⟩
 obtain ⟨R, h1, h2, h3⟩ := fixS_spec hc (rows.length + 1) accs hs (by omega)
 have hR := fixS_live hc h2 h3
 rw [hR] at h1
 have := live_fix hcl hwd hn a0 a1 _ _ _ hlen.symm h1
 refine Ev.congr (fun k => ?_) this
 unfold spec_l07Live.f
 simp only [Option.bind_some, List.nil_append, List.length_nil]
 rw [if_pos (by omega)]
end
end
end Go.Proofs.YtbamnonamdpooaaDoor.Lv
namespace Go.Proofs.YtbamnonamdpooaaDoor.To
set_option linter.unusedVariables false
set_option linter.unusedSimpArgs false
open Go.RowKit Go.Proofs.YtbamnonamdpooaaDoorW.PrintWords Go.Proofs.YtbamnonamdpooaaDoorW.PrintLast Go.Proofs.YtbamnonamdpooaaDoorW.PrintMore Go.Proofs.YtbamnonamdpooaaDoor.Kp Go.Proofs.YtbamnonamdpooaaDoor.Cl Go.Proofs.YtbamnonamdpooaaDoor.Mg Go.Proofs.YtbamnonamdpooaaDoor.Td Go.Proofs.YtbamnonamdpooaaDoor.Tdy
set_option maxHeartbeats 8000000 in
set_option maxRecDepth 100000 in
theorem tidyOf (tapes : Nat) (htp : tapes ≤ 3) (start : Nat) (accs : List Bool) (rows : List (List Nat)) (wd : Nat) (hwd1 : 0 < wd) (hwd2 : wd ≤ 30) (hcl : Closed wd rows accs) (hn : rows.length ≤ 100000) (hst : start < rows.length)
  (hwd : ∀ W, Calls Tryd.prog 124 #[.int .i64 tapes] W fun e W' => e = .returned (.int .i64 wd) ∧ Below W.heap.size W W')
  (dig : Nat → List Nat) (hdl : ∀ c, c < wd → (dig c).length = tapes) (hds : ∀ c, c < wd → ∀ d ∈ dig c, d < 3)
  (hdig : ∀ W c, c < wd → Calls Tryd.prog 69 #[.int .i64 tapes, .int .i64 (c : Int)] W fun e W' => ∃ v, e = .returned v ∧ Kd.R (Kd.int .i64) 3 W' W.heap.size (fun _ => True) v (ints (dig c)) ∧ Below W.heap.size W W')
  (w : World) (hG : It.Glob w) (AA : Option Addr) (ca : Nat) (AN : Option Addr) (cn : Nat) (hA : Kd.C Kd.bool w AA accs.length accs) (hN : Kd.C (Kd.slice 2 (Kd.int .i64)) w AN rows.length (rows.map ints)) (hca : accs.length ≤ ca) (hcn : rows.length ≤ cn) (bs : List Bool) (rws : List (List Nat)) (ht : Tidied wd rows accs start (padOf dig) bs rws) :
  Calls Tryd.prog 53 #[.agg #[.int .i64 tapes, .int .i64 start, .slice AA accs.length ca, .slice AN rows.length cn]] w fun e w' => ∃ vA vN, e = .returned (.agg #[.int .i64 tapes, .int .i64 0, vA, vN]) ∧
   Kd.R Kd.bool 4 w' w.heap.size (fun _ => True) vA bs ∧ Kd.R (Kd.slice 3 (Kd.int .i64)) 97 w' w.heap.size (fun _ => True) vN (rws.map ints) ∧ Below w.heap.size w w' := by
 have hlen := hcl.len
 have hmo : ∀ W, Below w.heap.size w W → _ := fun W hb => Mo.machineOf tapes start accs (rows.map ints) (by omega) (by omega) (by rw [List.length_map]; omega) (by
  intro r hr
  obtain ⟨x, hx, rfl⟩ := List.mem_map.1 hr
  rw [ints_length, hcl.wide x hx]
  omega) W AA ca AN cn (Kd.C_below hA hb) hca (by rw [List.length_map]; exact Kd.C_below hN hb) (by rw [List.length_map]; exact hcn)
 have hcl2 := Aside0.mk hcl
 have hl2 := Aside0.mk hlen
 rw [List.length_map] at hmo
 have ht2 := Aside0.mk ht
 clear hcl hlen hA hN
 go_enter Tryd.func53, Tryd.ntmps53
 go_wp2_with (first
  | (go_at_call 113; go_loud (refine (hmo _ (below_alloc (below_alloc (Below.refl _ _) _) _)).mono ?_; rintro e w1 ⟨vA, vN, rfl, r1, r2, hb1⟩; obtain ⟨A1, c1, rfl, hc1, hC1⟩ := Kd.R_reads r1; obtain ⟨A2, c2, rfl, hc2, hC2⟩ := Kd.R_reads r2; rw [List.length_map] at hc2 hC2 ⊢; have hB1 := below_step (below_alloc (below_alloc (Below.refl _ _) _) _) hb1; have bR1 := blk_below (blk_at (w.alloc (.cells #[.int .i64 (tapes : Int), .int .i64 (start : Int), .slice AA accs.length ca, .slice AN rows.length cn] 29)) (.cells #[.int .i64 0, .int .i64 0, .slice none 0 0, .slice none 0 0] 77) (w.heap.size + 1) (by simp)) hb1))
  | (go_at_call 114; go_loud (refine Calls.mono (tidy It.T It.T_size It.Glob It.glob_below It.itoa It.inj tapes htp start accs rows wd hwd1 hwd2 hcl2.out hn hst hwd dig hdl hds hdig w1 (It.glob_below _ _ hG hB1) A1 c1 A2 c2 hC1 hC2 hc1 hc2 bs rws ht2.out) ?_; rintro e w8 ⟨vA, vN, rfl, q1, q2, hb8⟩; obtain ⟨A3, c3, rfl⟩ := Kd.R_slice q1; obtain ⟨A4, c4, rfl⟩ := Kd.R_slice q2; rw [List.length_map] at q2 ⊢; have b0 := blk_below bR1 hb8; have e0 : w8.cell? ⟨w.heap.size + 1, 0, none⟩ = some (.int .i64 0) := (blk_cell b0 0).trans rfl; have e1 : w8.cell? ⟨w.heap.size + 1, 1, none⟩ = some (.int .i64 0) := (blk_cell b0 1).trans rfl; have e2 : w8.cell? ⟨w.heap.size + 1, 2, none⟩ = some (.slice none 0 0) := (blk_cell b0 2).trans rfl; have e3 : w8.cell? ⟨w.heap.size + 1, 3, none⟩ = some (.slice none 0 0) := (blk_cell b0 3).trans rfl; have g0 : w8.frozen? ⟨w.heap.size + 1, 0, none⟩ = false := blk_frozen b0 0; have g1 : w8.frozen? ⟨w.heap.size + 1, 1, none⟩ = false := blk_frozen b0 1; have g2 : w8.frozen? ⟨w.heap.size + 1, 2, none⟩ = false := blk_frozen b0 2; have g3 : w8.frozen? ⟨w.heap.size + 1, 3, none⟩ = false := blk_frozen b0 3)))
 have hB8 := below_step hB1 hb8
 have q3 := Kd.R_lower q1 (Below.size hB1)
 have q4 := Kd.R_lower q2 (Below.size hB1)
 have b1 := blk_put b0 0 (.int .i64 (tapes : Int)) rfl
 have b2 := blk_put b1 1 (.int .i64 0) rfl
 have b3 := blk_put b2 2 (.slice A3 bs.length c3) rfl
 have b4 := blk_put b3 3 (.slice A4 rws.length c4) rfl
 refine bodyPost_ret (results_cell_row rfl _ _ (w.heap.size + 1) 77 #[.int .i64 tapes, .int .i64 0, .slice A3 bs.length c3, .slice A4 rws.length c4] (0, 0) _ rfl b4 Tryd.underlying77 rfl (by kernel_rfl)) rfl ⟨_, _, rfl, ?_, ?_, ?_⟩
 ·exact Kd.R_set (Kd.R_set (Kd.R_set (Kd.R_set q3 b0 (by decide) 0 _) b1 (by decide) 1 _) b2 (by decide) 2 _) b3 (by decide) 3 _
 ·exact Kd.R_set (Kd.R_set (Kd.R_set (Kd.R_set q4 b0 (by decide) 0 _) b1 (by decide) 1 _) b2 (by decide) 2 _) b3 (by decide) 3 _
 ·exact (((hB8.setCell (by simp) _).setCell (by simp) _).setCell (by simp) _).setCell (by simp) _
end Go.Proofs.YtbamnonamdpooaaDoor.To
namespace Go.Proofs.YtbamnonamdpooaaDoor.Tid
set_option linter.unusedVariables false
set_option linter.unusedSimpArgs false
open Go.RowKit Go.Proofs.YtbamnonamdpooaaDoorW.PrintWords Go.Proofs.YtbamnonamdpooaaDoorW.PrintLast Go.Proofs.YtbamnonamdpooaaDoorW.PrintMore Go.Proofs.YtbamnonamdpooaaDoor.Tdy Go.Proofs.YtbamnonamdpooaaDoor.Td Go.Proofs.YtbamnonamdpooaaDoor.Mg Go.Proofs.YtbamnonamdpooaaDoor.Rg Go.Proofs.YtbamnonamdpooaaDoor.Ti Go.Proofs.YtbamnonamdpooaaDoor.Tf Go.Proofs.YtbamnonamdpooaaDoor.PB1
def Glob (w : World) : Prop := It.Glob w
theorem glob_below {w w' : World} (h : Glob w) (hb : Below w.heap.size w w') : Glob w' := It.glob_below _ _ h hb
def nats (l : List Int) : List Nat := l.map Int.toNat
/-- What is right enough to be made tidy. -/
def okM (a0 a1 : Int) (l2 : List Bool) (l3 : List (List Int)) : Prop := (1 ≤ a0 ∧ a0 ≤ 3) ∧ (0 ≤ a1 ∧ a1 < (l3.length : Int)) ∧ l2.length = l3.length ∧ l3.length ≤ 100000 ∧ ∀ r ∈ l3, r.length = wdOf a0.toNat ∧ ∀ x ∈ r, 0 ≤ x ∧ x < (l3.length : Int)
instance (a0 a1 : Int) (l2 : List Bool) (l3 : List (List Int)) : Decidable (okM a0 a1 l2 l3) := by unfold okM; infer_instance
def tidM (a0 a1 : Int) (l2 : List Bool) (l3 : List (List Int)) : List Bool × List (List Nat) := tidL (wdOf a0.toNat) (l3.map nats) l2 a1.toNat (padT a0.toNat)
def tidF (a0 a1 : Int) (l2 : List Bool) (l3 : List (List Int)) : Option (Int × Int × List Bool × List (List Int)) := if okM a0 a1 l2 l3 then some (a0, 0, (tidM a0 a1 l2 l3).1, (tidM a0 a1 l2 l3).2.map ints) else none
def impl_tidyOf.f (a0_0 a0_1 : Int) (l0_2 : List Bool) (l0_3 : List (List Int)) : Option (Int × Int × List Bool × List (List Int)) := tidF a0_0 a0_1 l0_2 l0_3
def spec_l01Tidied.f (a0_0 a0_1 : Int) (l0_2 : List Bool) (l0_3 : List (List Int)) : Option (Int × Int × List Bool × List (List Int)) := tidF a0_0 a0_1 l0_2 l0_3
theorem nats_ints {l : List Int} (h : ∀ x ∈ l, 0 ≤ x) : ints (nats l) = l := by
 have e : (l.map Int.toNat).map Int.ofNat = l := by
  rw [List.map_map]
  conv => rhs; rw [← List.map_id l]
  exact List.map_congr_left (fun x hx => by have := h x hx; simp; omega)
 exact e
theorem rows_ints {l : List (List Int)} (h : ∀ r ∈ l, ∀ x ∈ r, 0 ≤ x) : (l.map nats).map ints = l := by
 rw [List.map_map]
 conv => rhs; rw [← List.map_id l]
 exact List.map_congr_left (fun r hr => nats_ints (h r hr))
/-- The parts of a right machine, as natural numbers. -/
structure Ok (a0 a1 : Int) (l2 : List Bool) (l3 : List (List Int)) (t s : Nat) (rows : List (List Nat)) : Prop where
 t0 : a0 = (t : Int)
 t1 : 0 < t
 t2 : t < 4
 s0 : a1 = (s : Int)
 rw_ : rows = l3.map nats
 eq : l3 = rows.map ints
 s1 : s < rows.length
 cl : Closed (wdOf t) rows l2
 n : rows.length ≤ 100000
theorem okM_ok {a0 a1 : Int} {l2 : List Bool} {l3 : List (List Int)} (h : okM a0 a1 l2 l3) : Ok a0 a1 l2 l3 a0.toNat a1.toNat (l3.map nats) := by
 obtain ⟨⟨h1, h2⟩, ⟨h3, h4⟩, h5, h6, h7⟩ := h
 have he := rows_ints (fun r hr x hx => ((h7 r hr).2 x hx).1)
 refine ⟨by omega, by omega, by omega, by omega, rfl, he.symm, by rw [List.length_map]; omega, ⟨by rw [List.length_map]; exact h5.symm, ?_, ?_⟩, by rw [List.length_map]; exact h6⟩
 ·intro r hr
  obtain ⟨r', hr', rfl⟩ := List.mem_map.1 hr
  simp only [nats, List.length_map]
  exact (h7 r' hr').1
 ·intro r hr q hq
  obtain ⟨r', hr', rfl⟩ := List.mem_map.1 hr
  obtain ⟨x, hx, rfl⟩ := List.mem_map.1 hq
  have := (h7 r' hr').2 x hx
  rw [List.length_map]
  omega
theorem two_pow {t : Nat} (h : t < 4) : 0 < 2 ^ t ∧ 2 ^ t ≤ 8 := by
 have : t = 0 ∨ t = 1 ∨ t = 2 ∨ t = 3 := by omega
 rcases this with rfl | rfl | rfl | rfl <;> decide
section
variable {a0 a1 : Int} {l2 : List Bool} {l3 : List (List Int)} {t s : Nat} {rows : List (List Nat)}
theorem Ok.pad (h : Ok a0 a1 l2 l3 t s rows) : ∀ c, c < wdOf t → padT t c < 2 ^ t := fun c hc => fin_pad t h.t2 c (by have := wd_le t h.t2; omega)
theorem Ok.made (h : Ok a0 a1 l2 l3 t s rows) : Made (wdOf t) rows l2 s (padT t) (tidL (wdOf t) rows l2 s (padT t)).1 (tidL (wdOf t) rows l2 s (padT t)).2 :=
 Ti.made h.cl h.s1 (fun c hc => Nat.lt_of_lt_of_le (h.pad c hc) (two_pow h.t2).2)
end
theorem impl_tidyOf.calls (a0_0 a0_1 : Int) (A0_2 : Option Addr) (c0_2 : Nat) (l0_2 : List Bool) (A0_3 : Option Addr) (c0_3 : Nat) (l0_3 : List (List Int)) (r1 r2 : Int) (r3 : List Bool) (r4 : List (List Int)) (w : World)
  (hr0_2 : Kd.C Kd.bool w A0_2 l0_2.length l0_2) (hc0_2 : l0_2.length ≤ c0_2) (hr0_3 : Kd.C (Kd.slice 2 (Kd.int .i64)) w A0_3 l0_3.length l0_3) (hc0_3 : l0_3.length ≤ c0_3) (hG : Glob w) (h : impl_tidyOf.f a0_0 a0_1 l0_2 l0_3 = some (r1, r2, r3, r4)) :
  Calls Tryd.prog 53 #[.agg #[.int .i64 a0_0, .int .i64 a0_1, .slice A0_2 l0_2.length c0_2, .slice A0_3 l0_3.length c0_3]] w fun e w' => ∃ v2_ v3_ : Value, e = .returned (.agg #[.int .i64 r1, .int .i64 r2, v2_, v3_]) ∧ Kd.R Kd.bool 4 w' w.heap.size (fun _ => True) v2_ r3 ∧ Kd.N (Kd.slice 3 (Kd.int .i64)) 97 w' w.heap.size (fun _ => True) v3_ r4 ∧ Below w.heap.size w w' := by
 unfold impl_tidyOf.f tidF at h
 split at h
 ·rename_i hok
  have hk := okM_ok hok
  have ht := made_tidied hk.made
  obtain ⟨rfl, rfl, rfl, rfl⟩ : a0_0 = r1 ∧ 0 = r2 ∧ (tidM a0_0 a0_1 l0_2 l0_3).1 = r3 ∧ (tidM a0_0 a0_1 l0_2 l0_3).2.map ints = r4 := by simpa using h
  have e0 := hk.t0
  have e1 := hk.s0
  have e3 := hk.eq
  have hN : Kd.C (Kd.slice 2 (Kd.int .i64)) w A0_3 (l0_3.map nats).length ((l0_3.map nats).map ints) := by rw [← e3, List.length_map]; exact hr0_3
  have hcall := To.tidyOf a0_0.toNat (by have := hk.t2; omega) a0_1.toNat l0_2 (l0_3.map nats) (wdOf a0_0.toNat) (wd_pos _ hk.t2 hk.t1) (by have := wd_le _ hk.t2; omega) hk.cl hk.n hk.s1
   (fun W => (impl_widthOf.calls 10 _ _ W (fin_wide _ hk.t2).1).mono (fun e W' hh => ⟨hh.1, hh.2.below⟩)) (digs a0_0.toNat) (fun c _ => digs_len _ _) (fun c _ => digs_lt _ _)
   (fun W c hc => (impl_digitsOf.calls 10 _ _ _ W (fin_digs _ hk.t2 c (by have := wd_le _ hk.t2; omega))).mono (fun e W' hh => by obtain ⟨v, h1, h2, h3⟩ := hh; exact ⟨v, h1, h2, h3⟩))
   w hG A0_2 c0_2 A0_3 c0_3 hr0_2 hN hc0_2 (by rw [List.length_map]; exact hc0_3) _ _ ht
  rw [List.length_map, ← e0, ← e1] at hcall
  refine hcall.mono ?_
  rintro e w' ⟨vA, vN, rfl, q1, q2, hb⟩
  exact ⟨vA, vN, rfl, q1, Kd.R_N q2, hb⟩
 ·cases h
theorem spec_l01Tidied.calls (gp0 : Nat) (a0_0 a0_1 : Int) (A0_2 : Option Addr) (c0_2 : Nat) (l0_2 : List Bool) (A0_3 : Option Addr) (c0_3 : Nat) (l0_3 : List (List Int)) (r1 r2 : Int) (r3 : List Bool) (r4 : List (List Int)) (w : World) (hb0 : w.heap[gp0]? = some (.cells #[.int .i64 a0_0, .int .i64 a0_1, .slice A0_2 l0_2.length c0_2, .slice A0_3 l0_3.length c0_3] 29 (0, 0)))
  (hr0_2 : Kd.C Kd.bool w A0_2 l0_2.length l0_2) (hc0_2 : l0_2.length ≤ c0_2) (hr0_3 : Kd.C (Kd.slice 2 (Kd.int .i64)) w A0_3 l0_3.length l0_3) (hc0_3 : l0_3.length ≤ c0_3) (h : spec_l01Tidied.f a0_0 a0_1 l0_2 l0_3 = some (r1, r2, r3, r4)) :
  Calls Tryd.prog 48 #[.pointer (some ⟨gp0, 0, none⟩)] w fun e w' => ∃ v2_ v3_ : Value, e = .returned (.agg #[.int .i64 r1, .int .i64 r2, v2_, v3_]) ∧ Kd.R Kd.bool 4 w' w.heap.size (fun _ => True) v2_ r3 ∧ Kd.S (Kd.slice 2 (Kd.int .i64)) 86 w' w.heap.size (fun _ => True) v3_ r4 ∧ Below w.heap.size w w' := by
 unfold spec_l01Tidied.f tidF at h
 split at h
 ·rename_i hok
  have hk := okM_ok hok
  have hm := hk.made
  obtain ⟨rfl, rfl, rfl, rfl⟩ : a0_0 = r1 ∧ 0 = r2 ∧ (tidM a0_0 a0_1 l0_2 l0_3).1 = r3 ∧ (tidM a0_0 a0_1 l0_2 l0_3).2.map ints = r4 := by simpa using h
  have e0 := hk.t0
  have e1 := hk.s0
  have e3 := hk.eq
  obtain ⟨t, ht⟩ : ∃ t, a0_0.toNat = t := ⟨_, rfl⟩
  obtain ⟨s, hs⟩ : ∃ s, a0_1.toNat = s := ⟨_, rfl⟩
  obtain ⟨rows, hr⟩ : ∃ rows, l0_3.map nats = rows := ⟨_, rfl⟩
  unfold tidM
  rw [ht, hs, hr] at hk hm ⊢
  rw [ht] at e0
  rw [hs] at e1
  rw [hr] at e3
  have hwd := wd_le _ hk.t2
  have hz := two_pow hk.t2
  have hP : w.heap[gp0]? = some (.cells #[.int .i64 (t : Int), .int .i64 (s : Int), .slice A0_2 l0_2.length c0_2, .slice A0_3 rows.length c0_3] 29 (0, 0)) := by
   rw [hb0, e0, e1, e3, List.length_map]
  have hN : Kd.C (Kd.slice 2 (Kd.int .i64)) w A0_3 rows.length (rows.map ints) := by
   rw [e3, List.length_map] at hr0_3
   exact hr0_3
  have hcall := Tw.tidied (t : Int) (s : Int) l0_2 (rows.map ints) (wdOf t) (wd_pos _ hk.t2 hk.t1) (by omega) w gp0 A0_2 c0_2 A0_3 c0_3 (by rw [List.length_map]; exact hP)
   (fun accs rowsY => ∃ li rw_, Rgt (wdOf t) rows.length (2 ^ t) rows (padT t) s li rw_ ∧ accs = accsX l0_2 (2 ^ t) li ∧ rowsY = rowsX (wdOf t) li.length rw_ ∧ li.length ≤ 800000) ?_ ?_ (tidL (wdOf t) rows l0_2 s (padT t)).1 (tidL (wdOf t) rows l0_2 s (padT t)).2 ?_
  ·rw [e0]
   exact hcall
  ·intro W hbW
   refine (Rg.right t (by have := hk.t2; omega) (2 ^ t) rfl s l0_2 rows (wdOf t) (wd_pos _ hk.t2 hk.t1) (by omega) hk.cl hk.n hk.s1 (enC (padT t)) (fun e c e' _ hc h => ?_)
    (fun W => (spec_l01Wide.calls 10 _ _ W (fin_wide _ hk.t2).2).mono (fun e W' hh => ⟨hh.1, hh.2.below⟩))
    (fun W e c he hc => (spec_l01Ended.calls 60 _ _ _ _ W (fin_ended t hk.t2 e he c hc)).mono (fun e W' hh => ⟨hh.1, hh.2.below⟩)) W gp0 A0_2 c0_2 A0_3 c0_3 (blk_below hP hbW) (Kd.C_below hr0_2 hbW) (Kd.C_below hN hbW)).mono ?_
   ·unfold enC at h
    split at h
    ·cases h
     exact hk.pad c hc
    ·cases h
   ·rintro e w1 ⟨vA, vN, li, rw_, rfl, q1, q2, h1, h2, h3, h4, h5, h6, hb⟩
    have hle : rows.length * 2 ^ t ≤ 100000 * 8 := Nat.mul_le_mul hk.n hz.2
    exact ⟨_, _, ⟨li, rw_, ⟨h1, h2, h3, h4⟩, rfl, rfl, by omega⟩, vA, vN, rfl, q1, by rw [rowsX_ints h2]; exact q2, hb⟩
  ·rintro accs rowsY ⟨li, rw_, hR, rfl, rfl, hle⟩ W gx A2 c2 A3 c3 A1 c1 g hbX hA2 hc2 hA3 hc3 hA1 hc1 hgl
   have hc := rgt_closed (accs := l0_2) hR
   obtain ⟨k, hf⟩ := (finer_ev hc hgl (by omega) (by rw [rowsX_len hR]; omega) (t : Int) 0 (accsX l0_2 (2 ^ t) li)).rounds
   have hl3 : (rowsX (wdOf t) li.length rw_).length = ((rowsX (wdOf t) li.length rw_).map ints).length := by rw [List.length_map]
   have hl1 : g.length = (ints g).length := by rw [ints_length]
   rw [hl3] at hbX hA3 hc3
   rw [hl1] at hA1 hc1 ⊢
   exact spec_l01Finer.calls k gx (t : Int) 0 A2 c2 _ A3 c3 _ A1 c1 _ _ _ W hbX hA2 hc2 hA3 hc3 hA1 hc1 hf
  ·rintro accs rowsY ⟨li, rw_, hR, rfl, rfl, hle⟩
   exact ⟨rgt_closed hR, by rw [rowsX_len hR]; omega, by rw [rowsX_len hR]; omega, made_spec hm hR (fun c hc => hk.pad c hc) hz.1⟩
 ·cases h
end Go.Proofs.YtbamnonamdpooaaDoor.Tid
namespace Go.Proofs.YtbamnonamdpooaaDoor.Sbf
set_option linter.unusedVariables false
set_option linter.unusedSimpArgs false
open Go.RowKit Go.Proofs.YtbamnonamdpooaaDoorW.PrintWords Go.Proofs.YtbamnonamdpooaaDoorW.PrintLast Go.Proofs.YtbamnonamdpooaaDoorW.PrintMore Go.Proofs.YtbamnonamdpooaaDoor.Tdy Go.Proofs.YtbamnonamdpooaaDoor.Mg Go.Proofs.YtbamnonamdpooaaDoor.Tw Go.Proofs.YtbamnonamdpooaaDoor.Tid Go.Proofs.YtbamnonamdpooaaDoor.Lv Go.Proofs.YtbamnonamdpooaaDoor.Sb Go.Proofs.YtbamnonamdpooaaDoor.PC1
theorem pairF_inv {lv : Nat → Bool} {n : Nat} {li : List Nat} {r : List Nat} (hr8 : r.length = 8) (hrl : ∀ q ∈ r, q < n) {a b : Nat} (ha : a ≤ 2) (hb : b ≤ 2) {s s' : St} (h : Inv n li s) (hp : pairF lv r a b s = some s') : Inv n li s' := by
 unfold pairF at hp
 split at hp
 ·cases hp; exact h
 ·split at hp
  ·cases hp; exact h
  ·split at hp
   ·cases hp
   ·rename_i h1 h2 h3
    have hc8 : a + 3 * b < r.length := by omega
    have ht : r.getD (a + 3 * b) 0 < n := by
     have e : r.getD (a + 3 * b) 0 = r[a + 3 * b] := by simp [List.getD_eq_getElem?_getD, hc8]
     rw [e]
     exact hrl _ (List.getElem_mem hc8)
    split at hp
    ·cases hp; exact h.set _ _ _
    ·rename_i hf
     cases hp
     exact h.more ht hf _ _ _
theorem runB_inv {lv : Nat → Bool} {n : Nat} {li : List Nat} {r : List Nat} (hr8 : r.length = 8) (hrl : ∀ q ∈ r, q < n) {a : Nat} (ha : a ≤ 2) : ∀ (bs : List Nat) (s s' : St), (∀ b ∈ bs, b ≤ 2) → Inv n li s → runB lv r a bs s = some s' → Inv n li s'
 | [], s, s', _, h, hp => by cases hp; exact h
 | b :: bs, s, s', hb, h, hp => by
  unfold runB at hp
  obtain ⟨s1, h1, h2⟩ := Option.bind_eq_some_iff.1 hp
  exact runB_inv hr8 hrl ha bs s1 s' (fun x hx => hb x (List.mem_cons_of_mem _ hx)) (pairF_inv hr8 hrl ha (hb b List.mem_cons_self) h h1) h2
theorem runA_inv {lv : Nat → Bool} {n : Nat} {li : List Nat} {r : List Nat} (hr8 : r.length = 8) (hrl : ∀ q ∈ r, q < n) : ∀ (l : List Nat) (s s' : St), (∀ a ∈ l, a ≤ 2) → Inv n li s → runA lv r l s = some s' → Inv n li s'
 | [], s, s', _, h, hp => by cases hp; exact h
 | a :: l, s, s', ha, h, hp => by
  unfold runA at hp
  obtain ⟨s1, h1, h2⟩ := Option.bind_eq_some_iff.1 hp
  exact runA_inv hr8 hrl l s1 s' (fun x hx => ha x (List.mem_cons_of_mem _ hx)) (runB_inv hr8 hrl (ha a List.mem_cons_self) _ s s1 (by decide) h h1) h2
section
variable {rows : List (List Nat)} {accs : List Bool}
theorem row_at (hcl : Closed 8 rows accs) {q : Nat} (hq : q < rows.length) : (rows.getD q []).length = 8 ∧ ∀ t ∈ rows.getD q [], t < rows.length := by
 have e : rows.getD q [] = rows[q] := by simp [List.getD_eq_getElem?_getD, hq]
 rw [e]
 exact ⟨hcl.wide _ (List.getElem_mem hq), hcl.lt _ (List.getElem_mem hq)⟩
/-- As many rounds as states, and one, are enough. -/
theorem scr_some (hcl : Closed 8 rows accs) (lv : Nat → Bool) : ∀ (f i : Nat) (li : List Nat) (nx : List (List Int)) (ot : List (List ByteArray)), i ≤ li.length → (∀ q ∈ li, q < rows.length) → li.Nodup → rows.length < f + i → ∃ res, scr lv rows f i li nx ot = some res
 | 0, i, li, nx, ot, hi, hl, hd, hf => by
  have := Go.Proofs.YtbamnonamdpooaaDoor.Tdy.nodup_le (l := li) (m := List.range rows.length) hd (fun x hx => List.mem_range.2 (hl x hx))
  rw [List.length_range] at this
  omega
 | f + 1, i, li, nx, ot, hi, hl, hd, hf => by
  unfold scr
  by_cases h : i < li.length
  ·rw [dif_pos h]
   obtain ⟨h8, hrl⟩ := row_at hcl (hl _ (List.getElem_mem h))
   cases hr : rowT lv (rows.getD li[i] []) li with
   | none => exact ⟨none, rfl⟩
   | some s =>
    have hv : Inv rows.length li s := runA_inv h8 hrl _ _ s (by decide) (Inv.start hl hd) hr
    obtain ⟨m, hm⟩ := hv.pre
    exact scr_some hcl lv f (i + 1) s.1 _ _ (by rw [hm, List.length_append]; omega) hv.lt hv.nd (by omega)
  ·rw [dif_neg h]
   exact ⟨_, rfl⟩
end
/-- The scribe that is made: marks, numbers, letters, whether there is one. -/
def scribeF (rows : List (List Nat)) (accs : List Bool) (st : Nat) : List Bool × List (List Int) × List (List ByteArray) × Bool :=
 if live rows accs st = false then ([false], [[-1, -1]], [[⟨#[]⟩, ⟨#[]⟩]], true) else outcome accs ((scr (live rows accs) rows (rows.length + 1) 0 [st] [] []).getD none)
/-- What is right enough. -/
def okS (a1 : Int) (l2 : List Bool) (l3 : List (List Int)) : Prop := (0 ≤ a1 ∧ a1 < (l3.length : Int)) ∧ l2.length = l3.length ∧ l3.length ≤ 1000000 ∧ ∀ r ∈ l3, r.length = 8 ∧ ∀ x ∈ r, 0 ≤ x ∧ x < (l3.length : Int)
instance (a1 : Int) (l2 : List Bool) (l3 : List (List Int)) : Decidable (okS a1 l2 l3) := by unfold okS; infer_instance
def scrF (a1 : Int) (l2 : List Bool) (l3 : List (List Int)) : Option (List Bool × List (List Int) × List (List ByteArray) × Bool) := if okS a1 l2 l3 then some (scribeF (l3.map nats) l2 a1.toNat) else none
def impl_machine_scribe.f (a0_0 a0_1 : Int) (l0_2 : List Bool) (l0_3 : List (List Int)) : Option (List Bool × List (List Int) × List (List ByteArray) × Bool) := scrF a0_1 l0_2 l0_3
theorem okS_ok {a1 : Int} {l2 : List Bool} {l3 : List (List Int)} (h : okS a1 l2 l3) : a1 = (a1.toNat : Int) ∧ l3 = (l3.map nats).map ints ∧ a1.toNat < (l3.map nats).length ∧ Closed 8 (l3.map nats) l2 ∧ (l3.map nats).length ≤ 1000000 := by
 obtain ⟨⟨h3, h4⟩, h5, h6, h7⟩ := h
 have he := rows_ints (fun r hr x hx => ((h7 r hr).2 x hx).1)
 refine ⟨by omega, he.symm, by rw [List.length_map]; omega, ⟨by rw [List.length_map]; exact h5.symm, ?_, ?_⟩, by rw [List.length_map]; exact h6⟩
 ·intro r hr
  obtain ⟨r', hr', rfl⟩ := List.mem_map.1 hr
  simp only [nats, List.length_map]
  exact (h7 r' hr').1
 ·intro r hr q hq
  obtain ⟨r', hr', rfl⟩ := List.mem_map.1 hr
  obtain ⟨x, hx, rfl⟩ := List.mem_map.1 hq
  have := (h7 r' hr').2 x hx
  rw [List.length_map]
  omega
theorem col_is (a b : Nat) (ha : a ≤ 2) (hb : b ≤ 2) : impl_columnOf.f 5 [(a : Int), (b : Int)] = some ((a + 3 * b : Nat) : Int) := by
 match a, b, ha, hb with
 | 0, 0, _, _ => decide +kernel
 | 0, 1, _, _ => decide +kernel
 | 0, 2, _, _ => decide +kernel
 | 1, 0, _, _ => decide +kernel
 | 1, 1, _, _ => decide +kernel
 | 1, 2, _, _ => decide +kernel
 | 2, 0, _, _ => decide +kernel
 | 2, 1, _, _ => decide +kernel
 | 2, 2, _, _ => decide +kernel
theorem impl_machine_scribe.calls (a0_0 a0_1 : Int) (A0_2 : Option Addr) (c0_2 : Nat) (l0_2 : List Bool) (A0_3 : Option Addr) (c0_3 : Nat) (l0_3 : List (List Int)) (r1 : List Bool) (r2 : List (List Int)) (r3 : List (List ByteArray)) (r4 : Bool) (w : World)
  (hr0_2 : Kd.C Kd.bool w A0_2 l0_2.length l0_2) (hc0_2 : l0_2.length ≤ c0_2) (hr0_3 : Kd.C (Kd.slice 3 (Kd.int .i64)) w A0_3 l0_3.length l0_3) (hc0_3 : l0_3.length ≤ c0_3) (h : impl_machine_scribe.f a0_0 a0_1 l0_2 l0_3 = some (r1, r2, r3, r4)) :
  Calls Tryd.prog 54 #[.agg #[.int .i64 a0_0, .int .i64 a0_1, .slice A0_2 l0_2.length c0_2, .slice A0_3 l0_3.length c0_3]] w fun e w' => ∃ v1 v2 v3 : Value, e = .returned (.tuple #[.agg #[v1, v2, v3], .bool r4]) ∧ Kd.R Kd.bool 4 w' w.heap.size (fun _ => True) v1 r1 ∧ Kd.R Pair 89 w' w.heap.size (fun _ => True) v2 r2 ∧ Kd.R Text2 90 w' w.heap.size (fun _ => True) v3 r3 ∧ Below w.heap.size w w' := by
 unfold impl_machine_scribe.f scrF at h
 split at h
 ·rename_i hok
  obtain ⟨e1, e3, hst, hcl, hn⟩ := okS_ok hok
  have h' := Option.some.inj h
  clear h hok
  obtain ⟨st, hs⟩ : ∃ st, a0_1.toNat = st := ⟨_, rfl⟩
  obtain ⟨rows, hr⟩ : ∃ rows, l0_3.map nats = rows := ⟨_, rfl⟩
  rw [hs] at e1 hst h'
  rw [hr] at e3 hst hcl hn h'
  subst e1
  subst e3
  rw [List.length_map] at hr0_3 hc0_3 ⊢
  clear hs hr
  have hfl : (distL rows l0_2 rows.length).length = rows.length := by simp [distL]
  have hfr : ∀ q, q < rows.length → ((distL rows l0_2 rows.length).getD q (-1) < 0 ↔ live rows l0_2 q = false) := fun q hq => by
   have e : (distL rows l0_2 rows.length).getD q (-1) = dist rows l0_2 rows.length q := by simp [distL, List.getD_eq_getElem?_getD, hq]
   rw [e]
   have h2 := dist_live (rows := rows) (accs := l0_2) rows.length q
   unfold live
   constructor
   ·intro h3
    cases h4 : liveK rows l0_2 rows.length q with
    | false => rfl
    | true => have := h2.2 h4; omega
   ·intro h3
    have h5 : ¬ 0 ≤ dist rows l0_2 rows.length q := fun h6 => by rw [h2.1 h6] at h3; cases h3
    omega
  obtain ⟨k, hk⟩ := (far_ev hcl (by omega) hn a0_0 (st : Int)).rounds
  have hfar : ∀ W, Below w.heap.size w W → Calls Tryd.prog 115 #[.agg #[.int .i64 a0_0, .int .i64 st, .slice A0_2 l0_2.length c0_2, .slice A0_3 rows.length c0_3]] W fun e W' => ∃ v, e = .returned v ∧ Kd.R (Kd.int .i64) 3 W' W.heap.size (fun _ => True) v (distL rows l0_2 rows.length) ∧ Below W.heap.size W W' := fun W hb => by
   have := impl_machine_far.calls k a0_0 (st : Int) A0_2 c0_2 l0_2 A0_3 c0_3 (rows.map ints) _ W (Kd.C_below hr0_2 hb) hc0_2 (by rw [List.length_map]; exact Kd.C_below hr0_3 hb) (by rw [List.length_map]; exact hc0_3) hk
   rwa [List.length_map] at this
  have hcol : ∀ W A c (a b : Nat), a ≤ 2 → b ≤ 2 → Kd.C (Kd.int .i64) W A 2 [(a : Int), (b : Int)] → 2 ≤ c → Calls Tryd.prog 116 #[.slice A 2 c] W fun e W' => e = .returned (.int .i64 ((a + 3 * b : Nat) : Int)) ∧ Below W.heap.size W W' := fun W A c a b ha hb hC hc =>
   (impl_columnOf.calls 5 A c [(a : Int), (b : Int)] _ W hC hc (col_is a b ha hb)).mono (fun e W' hh => ⟨hh.1, hh.2.below⟩)
  unfold scribeF at h'
  cases hl : live rows l0_2 st with
  | false =>
   rw [if_pos hl] at h'
   injection h' with h1 h'
   injection h' with h2 h'
   injection h' with h3 h4
   subst h1; subst h2; subst h3; subst h4
   exact scribe_dead a0_0 st l0_2 rows hcl hn hst (live rows l0_2) _ hfl hfr w A0_2 c0_2 A0_3 c0_3 hr0_2 hr0_3 hc0_2 hc0_3 hfar hcol hl
  | true =>
   rw [if_neg (by rw [hl]; simp)] at h'
   obtain ⟨res, hres⟩ := scr_some hcl (live rows l0_2) (rows.length + 1) 0 [st] [] [] (by simp) (fun q hq => by rw [List.mem_singleton.1 hq]; exact hst) (by simp) (by omega)
   rw [hres] at h'
   have h1 : (outcome l0_2 res).1 = r1 := congrArg (·.1) h'
   have h2 : (outcome l0_2 res).2.1 = r2 := congrArg (·.2.1) h'
   have h3 : (outcome l0_2 res).2.2.1 = r3 := congrArg (·.2.2.1) h'
   have h4 : (outcome l0_2 res).2.2.2 = r4 := congrArg (·.2.2.2) h'
   subst h1; subst h2; subst h3; subst h4
   exact scribe a0_0 st l0_2 rows hcl hn hst (live rows l0_2) _ hfl hfr w A0_2 c0_2 A0_3 c0_3 hr0_2 hr0_3 hc0_2 hc0_3 hfar hcol hl _ res hres
 ·cases h
end Go.Proofs.YtbamnonamdpooaaDoor.Sbf
namespace Go.Proofs.YtbamnonamdpooaaDoor.Sbf
set_option linter.unusedVariables false
set_option linter.unusedSimpArgs false
open Go.RowKit Go.Proofs.YtbamnonamdpooaaDoorW.PrintWords Go.Proofs.YtbamnonamdpooaaDoorW.PrintLast Go.Proofs.YtbamnonamdpooaaDoorW.PrintMore Go.Proofs.YtbamnonamdpooaaDoor.Tdy Go.Proofs.YtbamnonamdpooaaDoor.Mg Go.Proofs.YtbamnonamdpooaaDoor.Tw Go.Proofs.YtbamnonamdpooaaDoor.Tid Go.Proofs.YtbamnonamdpooaaDoor.Lv Go.Proofs.YtbamnonamdpooaaDoor.Sb Go.Proofs.YtbamnonamdpooaaDoor.PB1 Go.Proofs.YtbamnonamdpooaaDoor.PC1
def spec_l07Scribe.f (a0_0 a0_1 : Int) (l0_2 : List Bool) (l0_3 : List (List Int)) : Option (List Bool × List (List Int) × List (List ByteArray) × Bool) := scrF a0_1 l0_2 l0_3
theorem wide_two : spec_l01Wide.f 10 2 = some 8 := by decide +kernel
theorem dig_zero : ∀ c : Nat, c < 8 → spec_l01Digit.f 10 (c : Int) 0 = some ((c % 3 : Nat) : Int) := by decide +kernel
theorem dig_one : ∀ c : Nat, c < 8 → spec_l01Digit.f 10 (c : Int) 1 = some ((c / 3 : Nat) : Int) := by decide +kernel
theorem spec_l07Scribe.calls (gp0 : Nat) (a0_0 a0_1 : Int) (A0_2 : Option Addr) (c0_2 : Nat) (l0_2 : List Bool) (A0_3 : Option Addr) (c0_3 : Nat) (l0_3 : List (List Int)) (r1 : List Bool) (r2 : List (List Int)) (r3 : List (List ByteArray)) (r4 : Bool) (w : World) (hb0 : w.heap[gp0]? = some (.cells #[.int .i64 a0_0, .int .i64 a0_1, .slice A0_2 l0_2.length c0_2, .slice A0_3 l0_3.length c0_3] 29 (0, 0)))
  (hr0_2 : Kd.C Kd.bool w A0_2 l0_2.length l0_2) (hc0_2 : l0_2.length ≤ c0_2) (hr0_3 : Kd.C (Kd.slice 2 (Kd.int .i64)) w A0_3 l0_3.length l0_3) (hc0_3 : l0_3.length ≤ c0_3) (h : spec_l07Scribe.f a0_0 a0_1 l0_2 l0_3 = some (r1, r2, r3, r4)) :
  Calls Tryd.prog 49 #[.pointer (some ⟨gp0, 0, none⟩)] w fun e w' => ∃ v1 v2 v3 : Value, e = .returned (.tuple #[.agg #[v1, v2, v3], .bool r4]) ∧ Kd.R Kd.bool 4 w' w.heap.size (fun _ => True) v1 r1 ∧ Kd.R Pair 89 w' w.heap.size (fun _ => True) v2 r2 ∧ Kd.R Text2 90 w' w.heap.size (fun _ => True) v3 r3 ∧ Below w.heap.size w w' := by
 unfold spec_l07Scribe.f scrF at h
 split at h
 ·rename_i hok
  obtain ⟨e1, e3, hst, hcl, hn⟩ := okS_ok hok
  have h' := Option.some.inj h
  clear h hok
  obtain ⟨st, hs⟩ : ∃ st, a0_1.toNat = st := ⟨_, rfl⟩
  obtain ⟨rows, hr⟩ : ∃ rows, l0_3.map nats = rows := ⟨_, rfl⟩
  rw [hs] at e1 hst h'
  rw [hr] at e3 hst hcl hn h'
  subst e1
  subst e3
  rw [List.length_map] at hb0 hr0_3 hc0_3
  clear hs hr
  obtain ⟨k, hk⟩ := (live_ev hcl (by omega) hn a0_0 (st : Int)).rounds
  have hfar : ∀ W, Below w.heap.size w W → Calls Tryd.prog 110 #[.pointer (some ⟨gp0, 0, none⟩)] W fun e W' => ∃ v, e = .returned v ∧ Kd.R Kd.bool 4 W' W.heap.size (fun _ => True) v ((List.range rows.length).map (live rows l0_2)) ∧ Below W.heap.size W W' := fun W hb =>
   spec_l07Live.calls k gp0 a0_0 (st : Int) A0_2 c0_2 l0_2 A0_3 c0_3 (rows.map ints) _ W (by rw [List.length_map]; exact blk_below hb0 hb) (Kd.C_below hr0_2 hb) hc0_2 (by rw [List.length_map]; exact Kd.C_below hr0_3 hb) (by rw [List.length_map]; exact hc0_3) hk
  have hwide : ∀ W, Calls Tryd.prog 60 #[.int .i64 2] W fun e W' => e = .returned (.int .i64 8) ∧ Below W.heap.size W W' := fun W =>
   (spec_l01Wide.calls 10 _ _ W wide_two).mono (fun e W' hh => ⟨hh.1, hh.2.below⟩)
  have hd0 : ∀ W (c : Nat), c < 8 → Calls Tryd.prog 61 #[.int .i64 (c : Int), .int .i64 0] W fun e W' => e = .returned (.int .i64 ((c % 3 : Nat) : Int)) ∧ Below W.heap.size W W' := fun W c hc =>
   (spec_l01Digit.calls 10 _ _ _ W (dig_zero c hc)).mono (fun e W' hh => ⟨hh.1, hh.2.below⟩)
  have hd1 : ∀ W (c : Nat), c < 8 → Calls Tryd.prog 61 #[.int .i64 (c : Int), .int .i64 1] W fun e W' => e = .returned (.int .i64 ((c / 3 : Nat) : Int)) ∧ Below W.heap.size W W' := fun W c hc =>
   (spec_l01Digit.calls 10 _ _ _ W (dig_one c hc)).mono (fun e W' hh => ⟨hh.1, hh.2.below⟩)
  unfold scribeF at h'
  cases hl : live rows l0_2 st with
  | false =>
   rw [if_pos hl] at h'
   injection h' with h1 h'
   injection h' with h2 h'
   injection h' with h3 h4
   subst h1; subst h2; subst h3; subst h4
   exact Sp.scribe_dead a0_0 st l0_2 rows hcl hn hst (live rows l0_2) w gp0 A0_2 c0_2 A0_3 c0_3 hb0 hr0_2 hr0_3 hc0_2 hc0_3 hfar hwide hd0 hd1 hl
  | true =>
   rw [if_neg (by rw [hl]; simp)] at h'
   obtain ⟨res, hres⟩ := scr_some hcl (live rows l0_2) (rows.length + 1) 0 [st] [] [] (by simp) (fun q hq => by rw [List.mem_singleton.1 hq]; exact hst) (by simp) (by omega)
   rw [hres] at h'
   have h1 : (outcome l0_2 res).1 = r1 := congrArg (·.1) h'
   have h2 : (outcome l0_2 res).2.1 = r2 := congrArg (·.2.1) h'
   have h3 : (outcome l0_2 res).2.2.1 = r3 := congrArg (·.2.2.1) h'
   have h4 : (outcome l0_2 res).2.2.2 = r4 := congrArg (·.2.2.2) h'
   subst h1; subst h2; subst h3; subst h4
   exact Sp.scribe a0_0 st l0_2 rows hcl hn hst (live rows l0_2) w gp0 A0_2 c0_2 A0_3 c0_3 hb0 hr0_2 hr0_3 hc0_2 hc0_3 hfar hwide hd0 hd1 hl _ res hres
 ·cases h
end Go.Proofs.YtbamnonamdpooaaDoor.Sbf
namespace Go.Proofs.YtbamnonamdpooaaDoor.Ti
set_option linter.unusedVariables false
set_option linter.unusedSimpArgs false
open Go.RowKit Go.Proofs.YtbamnonamdpooaaDoorW.PrintWords Go.Proofs.YtbamnonamdpooaaDoorW.PrintLast Go.Proofs.YtbamnonamdpooaaDoorW.PrintMore Go.Proofs.YtbamnonamdpooaaDoor.Tdy Go.Proofs.YtbamnonamdpooaaDoor.Td Go.Proofs.YtbamnonamdpooaaDoor.Mg Go.Proofs.YtbamnonamdpooaaDoor.Rg
section
variable {wd : Nat} {rows : List (List Nat)} {accs : List Bool} {start : Nat} {pad : Nat → Nat} {bs : List Bool} {rws : List (List Nat)}
/-- What is made is a right machine of the same language. -/
theorem made_good (hm : Made wd rows accs start pad bs rws) : Closed wd rws bs ∧ 0 < rws.length ∧ rws.length ≤ 8 * rows.length + 1 ∧ Same wd (mach rws bs) (right (mach rows accs) (okC pad) pad) 0 (some (start, 0)) := by
 obtain ⟨lp, rp, g, l, h1, h2, h3, rfl, c1, hrp, s1, k1, o1, hle⟩ := hm.is
 unfold byClass at h3
 obtain ⟨hd, m, hm2⟩ := bfs_done _ 0 [g.getD 0 0] [] l rws h3 (Nat.zero_le _) rfl (List.pairwise_singleton _ _) (fun r hr => by cases hr) (fun i hi => by cases hi)
 have hl0 : 0 < l.length := by rw [hm2]; simp
 have hall : ∀ a ∈ l, ∃ x, x < rp.length ∧ a = g.getD x 0 := bfs_all (Q := fun a => ∃ x, x < rp.length ∧ a = g.getD x 0) (by
  rintro a ⟨x, hx, rfl⟩ c hc
  exact ⟨_, c1.step (o1.lt x hx) (List.mem_range.1 hc), rfl⟩) _ 0 _ _ l rws h3 (fun a ha => by rw [List.mem_singleton.1 ha]; exact ⟨0, hrp, rfl⟩)
 have hlen : l.length ≤ rp.length := by
  have hnd : l.Nodup := hd.apart
  have := nodup_le (m := (List.range rp.length).map (fun x => g.getD x 0)) hnd (fun a ha => by
   obtain ⟨x, hx, rfl⟩ := hall a ha
   exact List.mem_map.2 ⟨x, List.mem_range.2 hx, rfl⟩)
  simpa using this
 have hrl : rp.length = lp.length := by have := c1.len; simpa using this
 refine ⟨done_closed _ hd, by rw [hd.len]; exact hl0, by rw [hd.len]; omega, ?_⟩
 have hds := done_same (A := ⟨fun a c => g.getD ((rp.getD (oneOf g a) []).getD c 0) 0, fun a => (lp.map (accP accs)).getD (oneOf g a) false⟩) hd hl0
 have e0 : l[0] = g.getD 0 0 := by
  have h : l[0]? = some (g.getD 0 0) := by rw [hm2]; rfl
  rw [List.getElem?_eq_getElem hl0] at h
  exact Option.some.inj h
 rw [e0] at hds
 refine (hds.trans ?_).trans s1
 refine Same.of (R := fun a x => ∃ y, y < rp.length ∧ x < rp.length ∧ a = g.getD y 0 ∧ Same wd (mach rp (lp.map (accP accs))) (mach rp (lp.map (accP accs))) y x) ?_ ?_ ⟨0, hrp, hrp, rfl, Same.refl _ _ _⟩
 ·rintro a x ⟨y, hy, hx, rfl, hs⟩
  exact (((k1.iff_ _ _ (o1.lt y hy) hy).1 (o1.eq y hy)).trans hs).acc
 ·rintro a x ⟨y, hy, hx, rfl, hs⟩ c hc
  have hsx := ((k1.iff_ _ _ (o1.lt y hy) hy).1 (o1.eq y hy)).trans hs
  exact ⟨_, c1.step (o1.lt y hy) hc, c1.step hx hc, rfl, hsx.step hc⟩
end
end Go.Proofs.YtbamnonamdpooaaDoor.Ti
namespace Go.Proofs.YtbamnonamdpooaaDoor.Il
set_option linter.unusedVariables false
set_option linter.unusedSimpArgs false
open Go.RowKit Go.Proofs.YtbamnonamdpooaaDoorW.PrintWords Go.Proofs.YtbamnonamdpooaaDoorW.PrintLast Go.Proofs.YtbamnonamdpooaaDoorW.PrintMore Go.Proofs.YtbamnonamdpooaaDoor.Kp Go.Proofs.YtbamnonamdpooaaDoor.Tdy Go.Proofs.YtbamnonamdpooaaDoor.Mg Go.Proofs.YtbamnonamdpooaaDoor.Tid Go.Proofs.YtbamnonamdpooaaDoor.Tf Go.Proofs.YtbamnonamdpooaaDoor.Ti Go.Proofs.YtbamnonamdpooaaDoor.Sb Go.Proofs.YtbamnonamdpooaaDoor.Sbf Go.Proofs.YtbamnonamdpooaaDoor.PT3 Go.Proofs.YtbamnonamdpooaaDoor.PureRel Go.Proofs.YtbamnonamdpooaaDoor.Lr
section
variable {t s : Int} {a : List Bool} {b : List (List Int)}
/-- A valid relation is right enough to be made tidy. -/
theorem ok_tidy (h : okR t s a b = true) : okM t s a b := by
 unfold okR okF at h
 simp only [Bool.and_eq_true, decide_eq_true_eq, List.all_eq_true] at h
 obtain ⟨h150, ⟨⟨⟨ht, hl⟩, hs⟩, hb⟩, hr⟩ := h
 unfold okX at hs
 simp only [decide_eq_true_eq] at hs
 refine ⟨ht, by omega, by omega, by omega, fun r hm => ?_⟩
 have h1 := hr r hm
 unfold okW okX at h1
 simp only [Bool.and_eq_true, decide_eq_true_eq, List.all_eq_true] at h1
 exact ⟨h1.1, fun x hx => by have := h1.2 x hx; omega⟩
theorem tidF_is (h : okR t s a b = true) : tidF t s a b = some (t, 0, (tidM t s a b).1, (tidM t s a b).2.map ints) := by
 unfold tidF
 rw [if_pos (ok_tidy h)]
/-- The tidy machine of a valid relation is right enough for a scribe. -/
theorem tid_okS (h : okR t s a b = true) (ht : t = 2) : okS 0 (tidM t s a b).1 ((tidM t s a b).2.map ints) := by
 subst ht
 have hk := okM_ok (ok_tidy h)
 obtain ⟨hc, h0, hle, _⟩ := made_good hk.made
 have hw : wdOf (2 : Int).toNat = 8 := rfl
 have hn : b.length ≤ 100000 := by have := hk.n; rwa [List.length_map] at this
 unfold tidM
 rw [hw] at hc
 have hle2 : (tidL (wdOf (2 : Int).toNat) (b.map nats) a s.toNat (padT (2 : Int).toNat)).2.length ≤ 8 * b.length + 1 := by have := hle; rwa [List.length_map] at this
 refine ⟨⟨Int.le_refl _, by rw [List.length_map]; exact_mod_cast h0⟩, by rw [List.length_map]; exact hc.len.symm, by rw [List.length_map]; omega, fun r hr => ?_⟩
 obtain ⟨r', h1, rfl⟩ := List.mem_map.1 hr
 refine ⟨by rw [ints_length]; exact hc.wide r' h1, fun x hx => ?_⟩
 have hx' : x ∈ r'.map Int.ofNat := hx
 obtain ⟨y, hy, rfl⟩ := List.mem_map.1 hx'
 have := hc.lt r' h1 y hy
 rw [List.length_map]
 exact ⟨by simp, Int.ofNat_lt.2 this⟩
/-- The scribe of a relation. -/
def scrR (t s : Int) (a : List Bool) (b : List (List Int)) : List Bool × List (List Int) × List (List ByteArray) × Bool := scribeF ((tidM t s a b).2) (tidM t s a b).1 0
theorem nats_of (l : List (List Nat)) : (l.map ints).map nats = l := by
 rw [List.map_map]
 conv => rhs; rw [← List.map_id l]
 refine List.map_congr_left (fun r _ => ?_)
 have : (r.map Int.ofNat).map Int.toNat = r := by
  rw [List.map_map]
  conv => rhs; rw [← List.map_id r]
  exact List.map_congr_left (fun x _ => by simp)
 exact this
theorem scr_tid (h : okR t s a b = true) (ht : t = 2) : scrF 0 (tidM t s a b).1 ((tidM t s a b).2.map ints) = some (scrR t s a b) := by
 unfold scrF scrR
 rw [if_pos (tid_okS h ht), nats_of]
 rfl
theorem two_ok (h : twoC t s a b = 0) : okR t s a b = true ∧ t = 2 := by
 unfold twoC at h
 by_cases h1 : okR t s a b = true
 ·rw [if_pos h1] at h
  by_cases h2 : t = 2
  ·exact ⟨h1, h2⟩
  ·rw [if_neg h2] at h; cases h
 ·rw [if_neg h1] at h; cases h
end
/-- What IsLetterwise returns. -/
def ilR (t s : Int) (a : List Bool) (b : List (List Int)) : Bool × Int := if twoC t s a b = 0 then ((scrR t s a b).2.2.2, 0) else (false, twoC t s a b)
set_option maxHeartbeats 4000000 in
theorem spec_il (t s : Int) (A2 : Option Addr) (c2 : Nat) (a : List Bool) (A3 : Option Addr) (c3 : Nat) (b : List (List Int)) (w : World) (hA : Arg w A2 c2 a A3 c3 b) (hS : Small a b) (hG : Glob w) :
  Calls Tryd.prog 13 #[.agg #[.int .i64 t, .int .i64 s, .slice A2 a.length c2, .slice A3 b.length c3]] w fun e w' => e = .returned (.tuple #[.bool (ilR t s a b).1, .int .i64 (ilR t s a b).2]) ∧ Below w.heap.size w w' := by
 have hP := blk_new w (.cells #[.int .i64 t, .int .i64 s, .slice A2 a.length c2, .slice A3 b.length c3] 29)
 have hb1 : Below w.heap.size w (w.alloc (.cells #[.int .i64 t, .int .i64 s, .slice A2 a.length c2, .slice A3 b.length c3] 29)) := below_alloc (Below.refl _ _) _
 have hG2 := Aside0.mk hG
 clear hG
 have htwo := Aside0.mk (two_spec w.heap.size t s A2 c2 a A3 c3 b _ hP (hA.below hb1) hS)
 by_cases h0 : twoC t s a b = 0
 ·obtain ⟨hok, ht2⟩ := two_ok h0
  have e : ilR t s a b = ((scrR t s a b).2.2.2, 0) := if_pos h0
  rw [e]
  obtain ⟨LA, LM, htd, hsc⟩ : ∃ LA LM, Aside0 (spec_l01Tidied.f t s a b = some (t, 0, LA, LM)) ∧ Aside0 (spec_l07Scribe.f t 0 LA LM = some ((scrR t s a b).1, (scrR t s a b).2.1, (scrR t s a b).2.2.1, (scrR t s a b).2.2.2)) := ⟨_, _, ⟨tidF_is hok⟩, ⟨scr_tid hok ht2⟩⟩
  have h0' := Aside0.mk h0
  clear e h0 ht2
  go_enter Tryd.func13, Tryd.ntmps13
  go_wp2_with (first
   | (go_at_call 47; go_loud (
     with_reducible refine htwo.out.mono ?_
     rintro e w2 ⟨he, hb2⟩
     rw [h0'.out] at he
     subst he
     have hP2 := blk_below hP hb2
     have hB2 := below_step hb1 hb2))
   | (go_at_call 48; go_loud (
     with_reducible refine (spec_l01Tidied.calls w.heap.size t s A2 c2 a A3 c3 b _ _ _ _ _ hP2 (hA.below hB2).r2 hA.l2 (hA.below hB2).r3 hA.l3 htd.out).mono ?_
     rintro e w3 ⟨v2, v3, rfl, q2, q3, hb3⟩
     obtain ⟨B2, d2, e2⟩ := Kd.R_slice q2
     subst e2
     obtain ⟨B3, d3, e3⟩ := Kd.S_slice q3
     subst e3
     have hB3 := below_step hB2 hb3
     have hT := blk_new w3 (.cells #[.int .i64 t, .int .i64 0, .slice B2 LA.length d2, .slice B3 LM.length d3] 29)
     have hb3a : Below w3.heap.size w3 (w3.alloc (.cells #[.int .i64 t, .int .i64 0, .slice B2 LA.length d2, .slice B3 LM.length d3] 29)) := below_alloc (Below.refl _ _) _))
   | (go_at_call 49; go_loud (
     with_reducible refine (spec_l07Scribe.calls w3.heap.size t 0 B2 d2 LA B3 d3 LM _ _ _ _ _ hT (Kd.C_below (Kd.R_reads' q2).2.2 hb3a) (Kd.R_reads' q2).2.1 (Kd.C_below (Kd.S_reads' q3).2.2 hb3a) (Kd.S_reads' q3).2.1 hsc.out).mono ?_
     rintro e w4 ⟨v5, v6, v7, rfl, q5, q6, q7, hb4⟩
     have hB4 : Below w.heap.size w w4 := below_step (below_step hB3 hb3a) hb4
     obtain ⟨A5, c5, e5⟩ := Kd.R_slice q5
     subst e5
     obtain ⟨A6, c6, e6⟩ := Kd.R_slice q6
     subst e6
     obtain ⟨A7, c7, e7⟩ := Kd.R_slice q7
     subst e7
     clear q2 q3)))
  go_ret2
  exact ⟨rfl, by repeat (first | exact hB4 | apply below_alloc | (refine Below.setCell ?_ (by have := Below.size hB4; simp <;> omega) _))⟩
 ·have e : ilR t s a b = (false, twoC t s a b) := if_neg h0
  rw [e]
  have x1 : (twoC t s a b == 0) = false := beq_eq_false_iff_ne.mpr h0
  have x2 : (twoC t s a b != 0) = true := bne_iff_ne.mpr h0
  have x3 : (twoC t s a b = 0) = False := eq_false h0
  clear e h0
  go_enter Tryd.func13, Tryd.ntmps13
  go_wp2_with (go_at_call 47; go_loud (
     with_reducible refine htwo.out.mono ?_
     rintro e w2 ⟨rfl, hb2⟩
     have hB2 := below_step hb1 hb2))
  go_ret2
  exact ⟨rfl, hB2⟩
set_option maxHeartbeats 4000000 in
theorem impl_il (t s : Int) (A2 : Option Addr) (c2 : Nat) (a : List Bool) (A3 : Option Addr) (c3 : Nat) (b : List (List Int)) (w : World) (hA : Arg w A2 c2 a A3 c3 b) (hS : Small a b) (hG : Glob w) :
  Calls Tryd.prog 15 #[.agg #[.int .i64 t, .int .i64 s, .slice A2 a.length c2, .slice A3 b.length c3]] w fun e w' => e = .returned (.tuple #[.bool (ilR t s a b).1, .int .i64 (ilR t s a b).2]) ∧ Below w.heap.size w w' := by
 have hP := blk_new w (.cells #[.int .i64 t, .int .i64 s, .slice A2 a.length c2, .slice A3 b.length c3] 29)
 have hb1 : Below w.heap.size w (w.alloc (.cells #[.int .i64 t, .int .i64 s, .slice A2 a.length c2, .slice A3 b.length c3] 29)) := below_alloc (Below.refl _ _) _
 have hG2 := Aside0.mk hG
 clear hG
 have hb1' : Below w.heap.size w ((w.alloc (.cells #[.int .i64 t, .int .i64 s, .slice A2 a.length c2, .slice A3 b.length c3] 29)).alloc (.cells #[.int .i64 t, .int .i64 s, .slice A2 a.length c2, .slice A3 b.length c3] 29)) := below_alloc hb1 _
 have hP1 : ((w.alloc (.cells #[.int .i64 t, .int .i64 s, .slice A2 a.length c2, .slice A3 b.length c3] 29)).alloc (.cells #[.int .i64 t, .int .i64 s, .slice A2 a.length c2, .slice A3 b.length c3] 29)).heap[w.heap.size + 1]? = some (.cells #[.int .i64 t, .int .i64 s, .slice A2 a.length c2, .slice A3 b.length c3] 29 (0, 0)) := blk_at _ _ _ (by simp)
 have hP0 : ((w.alloc (.cells #[.int .i64 t, .int .i64 s, .slice A2 a.length c2, .slice A3 b.length c3] 29)).alloc (.cells #[.int .i64 t, .int .i64 s, .slice A2 a.length c2, .slice A3 b.length c3] 29)).heap[w.heap.size]? = some (.cells #[.int .i64 t, .int .i64 s, .slice A2 a.length c2, .slice A3 b.length c3] 29 (0, 0)) := blk_alloc hP _
 have htwo := Aside0.mk (pairs_one (w.heap.size + 1) t s A2 c2 a A3 c3 b _ hP1 (hA.below hb1') hS)
 clear hP1
 by_cases h0 : twoC t s a b = 0
 ·obtain ⟨hok, ht2⟩ := two_ok h0
  have e : ilR t s a b = ((scrR t s a b).2.2.2, 0) := if_pos h0
  rw [e]
  obtain ⟨LA, LM, htd, hsc⟩ : ∃ LA LM, Aside0 (impl_tidyOf.f t s a b = some (t, 0, LA, LM)) ∧ Aside0 (impl_machine_scribe.f t 0 LA LM = some ((scrR t s a b).1, (scrR t s a b).2.1, (scrR t s a b).2.2.1, (scrR t s a b).2.2.2)) := ⟨_, _, ⟨tidF_is hok⟩, ⟨scr_tid hok ht2⟩⟩
  have h0' := Aside0.mk h0
  clear e h0 ht2
  go_enter Tryd.func15, Tryd.ntmps15
  go_wp2_with (first
   | (go_at_call 52; go_loud (
     with_reducible refine htwo.out.mono ?_
     rintro e w2 ⟨he, hb2⟩
     rw [h0'.out] at he
     subst he
     have hP2 := blk_below hP0 hb2
     have m0 : w2.cell? ⟨w.heap.size, 0, none⟩ = some (.int .i64 t) := (blk_cell hP2 0).trans rfl
     have m1 : w2.cell? ⟨w.heap.size, 1, none⟩ = some (.int .i64 s) := (blk_cell hP2 1).trans rfl
     have m2 : w2.cell? ⟨w.heap.size, 2, none⟩ = some (.slice A2 a.length c2) := (blk_cell hP2 2).trans rfl
     have m3 : w2.cell? ⟨w.heap.size, 3, none⟩ = some (.slice A3 b.length c3) := (blk_cell hP2 3).trans rfl
     have hB2 := below_step hb1' hb2))
   | (go_at_call 53; go_loud (
     with_reducible refine (impl_tidyOf.calls t s A2 c2 a A3 c3 b _ _ _ _ _ (hA.below hB2).r2 hA.l2 (hA.below hB2).r3 hA.l3 (glob_below hG2.out hB2) htd.out).mono ?_
     rintro e w3 ⟨v2, v3, rfl, q2, q3, hb3⟩
     obtain ⟨B2, d2, e2⟩ := Kd.R_slice q2
     subst e2
     obtain ⟨B3, d3, e3, hd3, hC3⟩ := Kd.N_reads q3
     subst e3
     have hB3 := below_step hB2 hb3))
   | (go_at_call 54; go_loud (
     with_reducible refine (impl_machine_scribe.calls t 0 B2 d2 LA B3 d3 LM _ _ _ _ _ (Kd.R_reads' q2).2.2 (Kd.R_reads' q2).2.1 hC3 hd3 hsc.out).mono ?_
     rintro e w4 ⟨v5, v6, v7, rfl, q5, q6, q7, hb4⟩
     have hB4 := below_step hB3 hb4
     obtain ⟨A5, c5, e5⟩ := Kd.R_slice q5
     subst e5
     obtain ⟨A6, c6, e6⟩ := Kd.R_slice q6
     subst e6
     obtain ⟨A7, c7, e7⟩ := Kd.R_slice q7
     subst e7
     clear q2 q3)))
  go_ret2
  exact ⟨rfl, by repeat (first | exact hB4 | apply below_alloc | (refine Below.setCell ?_ (by have := Below.size hB4; simp <;> omega) _))⟩
 ·have e : ilR t s a b = (false, twoC t s a b) := if_neg h0
  rw [e]
  have x1 : (twoC t s a b == 0) = false := beq_eq_false_iff_ne.mpr h0
  have x2 : (twoC t s a b != 0) = true := bne_iff_ne.mpr h0
  have x3 : (twoC t s a b = 0) = False := eq_false h0
  clear e h0
  go_enter Tryd.func15, Tryd.ntmps15
  go_wp2_with (go_at_call 52; go_loud (
     with_reducible refine htwo.out.mono ?_
     rintro e w2 ⟨rfl, hb2⟩
     have hB2 := below_step hb1' hb2))
  go_ret2
  exact ⟨rfl, hB2⟩
set_option maxHeartbeats 4000000 in
set_option maxRecDepth 100000 in
theorem law_calls (t s : Int) (A2 : Option Addr) (c2 : Nat) (a : List Bool) (A3 : Option Addr) (c3 : Nat) (b : List (List Int)) (w : World) (hA : Arg w A2 c2 a A3 c3 b) (hG : Glob w) (la : a.length ≤ 9223372036854775807) (lb : b.length ≤ 9223372036854775807) (lr : ∀ r ∈ b, r.length ≤ 9223372036854775807) :
  Calls Tryd.prog 3 #[.agg #[.int .i64 t, .int .i64 s, .slice A2 a.length c2, .slice A3 b.length c3]] w fun e w' => e = .returned (.bool true) ∧ Below w.heap.size w w' := by
 obtain ⟨z, hz, hzl⟩ := szRel_ev t s a b 1048576 (by omega) (by omega) la lb lr
 obtain ⟨kz, hkz⟩ := hz.rounds
 have hsz := Aside0.mk hkz
 have hb1 : Below w.heap.size w (w.alloc (.cells #[.int .i64 t, .int .i64 s, .slice A2 a.length c2, .slice A3 b.length c3] 25)) := below_alloc (Below.refl _ _) _
 have hP1 := blk_new w (.cells #[.int .i64 t, .int .i64 s, .slice A2 a.length c2, .slice A3 b.length c3] 25)
 have hG2 := Aside0.mk hG
 clear hz hkz hG
 by_cases h0 : z < 0
 ·have z1 : (z < 0) = True := eq_true h0
  clear h0
  go_enter Tryd.func3, Tryd.ntmps3
  go_wp2_with (go_at_call 12; go_loud (
   with_reducible refine (laws_szRelation.calls kz t s A2 c2 a A3 c3 b 1048576 z _ (hA.below hb1).r2 hA.l2 (hA.below hb1).r3 hA.l3 hsz.out).mono ?_
   rintro e w2 ⟨rfl, hb2⟩
   have hB2 := below_step hb1 hb2))
  go_ret
  exact ⟨rfl, hB2⟩
 ·have hS : Small a b := by obtain ⟨x1, x2, x3⟩ := hzl (by omega); exact ⟨x1, x2, x3⟩
  obtain ⟨kt, hkt⟩ := (toRel_ev t s a b hS.la hS.lb hS.lr).rounds
  have htr := Aside0.mk hkt
  have z1 : (z < 0) = False := eq_false h0
  obtain ⟨x, hx⟩ : ∃ x, ilR t s a b = x := ⟨_, rfl⟩
  obtain ⟨xb, xc⟩ := x
  have hx2 := Aside0.mk hx
  have n1 : (xb != xb) = false := by simp
  have n2 : (xc != xc) = false := by simp
  clear h0 hkt hx hzl
  go_enter Tryd.func3, Tryd.ntmps3
  go_wp2_with (first
   | (go_at_call 12; go_loud (
     with_reducible refine (laws_szRelation.calls kz t s A2 c2 a A3 c3 b 1048576 z _ (hA.below hb1).r2 hA.l2 (hA.below hb1).r3 hA.l3 hsz.out).mono ?_
     rintro e w2 ⟨rfl, hb2⟩
     have hP2 := blk_below hP1 hb2
     have hB2 := below_step hb1 hb2
     have m0 : w2.cell? ⟨w.heap.size, 0, none⟩ = some (.int .i64 t) := (blk_cell hP2 0).trans rfl
     have m1 : w2.cell? ⟨w.heap.size, 1, none⟩ = some (.int .i64 s) := (blk_cell hP2 1).trans rfl
     have m2 : w2.cell? ⟨w.heap.size, 2, none⟩ = some (.slice A2 a.length c2) := (blk_cell hP2 2).trans rfl
     have m3 : w2.cell? ⟨w.heap.size, 3, none⟩ = some (.slice A3 b.length c3) := (blk_cell hP2 3).trans rfl))
   | (go_at_call 14; (with_reducible refine (laws_toRelation.calls kt t s A2 c2 a A3 c3 b _ _ _ _ w2 (hA.below hB2).r2 hA.l2 (hA.below hB2).r3 hA.l3 htr.out).mono ?_); go_loud (
     rintro e w3 ⟨v2, v3, rfl, q2, q3, hb3⟩
     obtain ⟨B2, d2, e2⟩ := Kd.R_slice q2
     subst e2
     obtain ⟨B3, d3, e3⟩ := Kd.S_slice q3
     subst e3
     have hB3 := below_step hB2 hb3
     have hA3 : Arg w3 B2 d2 a B3 d3 b := ⟨(Kd.R_reads' q2).2.2, (Kd.R_reads' q2).2.1, (Kd.S_reads' q3).2.2, (Kd.S_reads' q3).2.1⟩))
   | (go_at_call 13; go_loud (
     with_reducible refine (spec_il t s B2 d2 a B3 d3 b w3 hA3 hS (glob_below hG2.out hB3)).mono ?_
     rintro e w4 ⟨he, hb4⟩
     rw [hx2.out] at he
     subst he
     have hB4 := below_step hB3 hb4
     have hP4 := blk_below (blk_below hP2 hb3) hb4
     have m40 : w4.cell? ⟨w.heap.size, 0, none⟩ = some (.int .i64 t) := (blk_cell hP4 0).trans rfl
     have m41 : w4.cell? ⟨w.heap.size, 1, none⟩ = some (.int .i64 s) := (blk_cell hP4 1).trans rfl
     have m42 : w4.cell? ⟨w.heap.size, 2, none⟩ = some (.slice A2 a.length c2) := (blk_cell hP4 2).trans rfl
     have m43 : w4.cell? ⟨w.heap.size, 3, none⟩ = some (.slice A3 b.length c3) := (blk_cell hP4 3).trans rfl))
   | (go_at_call 14; (with_reducible refine (laws_toRelation.calls kt t s A2 c2 a A3 c3 b _ _ _ _ w4 (hA.below hB4).r2 hA.l2 (hA.below hB4).r3 hA.l3 htr.out).mono ?_); go_loud (
     rintro e w5 ⟨v2, v3, rfl, q2, q3, hb5⟩
     obtain ⟨X2, x2, e2⟩ := Kd.R_slice q2
     subst e2
     obtain ⟨X3, x3, e3⟩ := Kd.S_slice q3
     subst e3
     have hB5 := below_step hB4 hb5
     have hA5 : Arg w5 X2 x2 a X3 x3 b := ⟨(Kd.R_reads' q2).2.2, (Kd.R_reads' q2).2.1, (Kd.S_reads' q3).2.2, (Kd.S_reads' q3).2.1⟩
     have hX5 := blk_new w5 (.cells #[.int .i64 t, .int .i64 s, .slice X2 a.length x2, .slice X3 b.length x3] 29)
     have hP5 := blk_below hP4 hb5))
   | (go_at_call 15; go_loud (
     have hb6 : Below w5.heap.size w5 (w5.alloc (.cells #[.int .i64 t, .int .i64 s, .slice X2 a.length x2, .slice X3 b.length x3] 29)) := below_alloc (Below.refl _ _) _
     have hB6 := below_step hB5 hb6
     with_reducible refine (impl_il t s X2 x2 a X3 x3 b _ (hA5.below hb6) hS (glob_below hG2.out hB6)).mono ?_
     rintro e w7 ⟨he, hb7⟩
     rw [hx2.out] at he
     subst he
     have hB7 := below_step hB6 hb7
     have hX := blk_below hX5 hb7
     have hP7 := blk_below (blk_below hP5 hb6) hb7
     have hAX := (hA5.below hb6).below hb7)))
  clear n1 n2
  obtain ⟨gx, hgx⟩ : ∃ g, w5.heap.size = g := ⟨_, rfl⟩
  rw [hgx] at hX
  simp only [hgx]
  clear hX5 hgx hb6 hB6
  have hXd := blk_drew hX
  have hPd := blk_drew hP7
  have hBd := below_drew1 hB7
  have hAX2 := hAX.below (below_drew1 (Below.refl _ _))
  refine start_ (n := 5) (S := (fun w' => w'.cell? ⟨gx, 0, none⟩ = some (.int .i64 t) ∧ w'.cell? ⟨gx, 1, none⟩ = some (.int .i64 s) ∧ w'.cell? ⟨gx, 2, none⟩ = some (.slice X2 a.length x2) ∧ w'.cell? ⟨gx, 3, none⟩ = some (.slice X3 b.length x3) ∧ w'.cell? ⟨w.heap.size, 0, none⟩ = some (.int .i64 t) ∧ w'.cell? ⟨w.heap.size, 1, none⟩ = some (.int .i64 s) ∧ w'.cell? ⟨w.heap.size, 2, none⟩ = some (.slice A2 a.length c2) ∧ w'.cell? ⟨w.heap.size, 3, none⟩ = some (.slice A3 b.length c3))) (ds := []) #[false, false, false, false, false] (by kernel_rfl) rfl rfl (⟨(blk_cell hXd 0).trans rfl, (blk_cell hXd 1).trans rfl, (blk_cell hXd 2).trans rfl, (blk_cell hXd 3).trans rfl, (blk_cell hPd 0).trans rfl, (blk_cell hPd 1).trans rfl, (blk_cell hPd 2).trans rfl, (blk_cell hPd 3).trans rfl⟩) (fun hHeld => ?_)
  refine take_ (i := 0) (N := some 35) (v := ?_) (a' := ?_) #[true, false, false, false, false] rfl rfl (by kernel_rfl) (fun _ _ _ h => h) (Or.inl ⟨by rfl, ?_⟩) hHeld ?_ ?_
  rotate_left
  ·rintro w' ⟨s0, s1, s2, s3, s4, s5, s6, s7⟩
   go_simp
   with_reducible rfl
  rotate_left
  ·simp only [Act.put, List.setIfInBounds_toArray, List.set_cons_zero, List.set_cons_succ, i64_w, i32_w]
   rfl
  refine take_ (i := 1) (N := some 36) (v := ?_) (a' := ?_) #[true, true, false, false, false] rfl rfl (by kernel_rfl) (fun _ _ _ h => h) (Or.inl ⟨by rfl, ?_⟩) hHeld ?_ ?_
  rotate_left
  ·rintro w' ⟨s0, s1, s2, s3, s4, s5, s6, s7⟩
   go_simp
   with_reducible rfl
  rotate_left
  ·simp only [Act.put, List.setIfInBounds_toArray, List.set_cons_zero, List.set_cons_succ, i64_w, i32_w]
   rfl
  refine one_ (i := 2) (N := some 37) #[true, true, true, false, false] rfl rfl (by kernel_rfl) (by decide) (fun K hK => ?_)
  refine goes_ Tryd.func14 (by kernel_rfl) rfl #[.agg #[.int .i64 t, .int .i64 s, .slice A2 a.length c2, .slice A3 b.length c3]] (by rfl) rfl rfl (by (try simp only [List.map_toArray, List.map_cons, List.map_nil]); first | done | rfl) ?_
  with_reducible refine (laws_toRelation.calls kt t s A2 c2 a A3 c3 b _ _ _ _ _ (hA.below hBd).r2 hA.l2 (hA.below hBd).r3 hA.l3 htr.out).mono ?_
  rintro e w8 ⟨v2, v3, rfl, q2, q3, hb8⟩
  obtain ⟨Y2, y2, e2⟩ := Kd.R_slice q2
  subst e2
  obtain ⟨Y3, y3, e3⟩ := Kd.S_slice q3
  subst e3
  refine ⟨_, rfl, ?_⟩
  have hX8 := blk_below hXd hb8
  have hP8 := blk_below hPd hb8
  have hB8 := below_step hBd hb8
  refine hK.out _ _ ⟨(blk_cell hX8 0).trans rfl, (blk_cell hX8 1).trans rfl, (blk_cell hX8 2).trans rfl, (blk_cell hX8 3).trans rfl, (blk_cell hP8 0).trans rfl, (blk_cell hP8 1).trans rfl, (blk_cell hP8 2).trans rfl, (blk_cell hP8 3).trans rfl⟩ (fun hHeld => ?_)
  clear hK K
  refine norm_ (a' := ?_) ?_ ?_
  rotate_left
  ·show Act.put _ (some 37) _ = _
   simp only [Act.put, List.setIfInBounds_toArray, List.set_cons_zero, List.set_cons_succ, i64_w, i32_w]
   rfl
  refine one_ (i := 3) (N := some 38) #[true, true, true, true, false] rfl rfl (by kernel_rfl) (by decide) (fun K hK => ?_)
  refine goes_ Tryd.func16 (by kernel_rfl) rfl #[.agg #[.int .i64 t, .int .i64 s, .slice X2 a.length x2, .slice X3 b.length x3], .agg #[.int .i64 t, .int .i64 s, .slice Y2 a.length y2, .slice Y3 b.length y3]] (by rfl) rfl rfl (by (try simp only [List.map_toArray, List.map_cons, List.map_nil]); first | done | rfl) ?_
  with_reducible refine (eq_same t s X2 x2 a X3 x3 b Y2 y2 Y3 y3 _ (hAX2.below hb8) ⟨(Kd.R_reads' q2).2.2, (Kd.R_reads' q2).2.1, (Kd.S_reads' q3).2.2, (Kd.S_reads' q3).2.1⟩ hS).mono ?_
  rintro e w9 ⟨rfl, hb9⟩
  refine ⟨_, rfl, ?_⟩
  have hX9 := blk_below hX8 hb9
  have hP9 := blk_below hP8 hb9
  have hB9 := below_step hB8 hb9
  refine hK.out _ _ ⟨(blk_cell hX9 0).trans rfl, (blk_cell hX9 1).trans rfl, (blk_cell hX9 2).trans rfl, (blk_cell hX9 3).trans rfl, (blk_cell hP9 0).trans rfl, (blk_cell hP9 1).trans rfl, (blk_cell hP9 2).trans rfl, (blk_cell hP9 3).trans rfl⟩ (fun hHeld => ?_)
  clear hK K
  refine norm_ (a' := ?_) ?_ ?_
  rotate_left
  ·show Act.put _ (some 38) _ = _
   simp only [Act.put, List.setIfInBounds_toArray, List.set_cons_zero, List.set_cons_succ, i64_w, i32_w]
   rfl
  refine pure_ (i := 4) (N := some 39) (v := ?_) (a' := ?_) #[true, true, true, true, true] rfl rfl (by kernel_rfl) (fun _ _ _ h => h) (Or.inl ⟨by rfl, ?_⟩) ?_ ?_
  rotate_left
  ·intro w'
   go_simp
   with_reducible rfl
  rotate_left
  ·simp only [Act.put, List.setIfInBounds_toArray, List.set_cons_zero, List.set_cons_succ, i64_w, i32_w]
   rfl
  refine done_ (by kernel_rfl) ?_
  go_wp2_with fail
  go_ret
  exact ⟨rfl, hB9⟩
end Go.Proofs.YtbamnonamdpooaaDoor.Il
namespace Go.Proofs.YtbamnonamdpooaaDoor.WFnExactIsLetterwise
set_option linter.unusedVariables false
set_option linter.unusedSimpArgs false
open Go.RowKit Go.Proofs.YtbamnonamdpooaaDoorW.PrintWords Go.Proofs.YtbamnonamdpooaaDoor.Tid
theorem glob_of_laid {W : World} (h : laidMetH Tryd.prog Rows.fnExactIsLetterwiseRow.laid W) : Glob W := by
 rw [MakeChecks.laidMetH_plain _ _ _ (by kernel_rfl)] at h
 have h2 := h.filter (fun x => x.1 == "internal/strconv.uint64pow10")
 exact Lib.tabIs_of_head (g := 0) (t := 214) (e := 207) (n := 20) (rest := []) (by kernel_rfl) (by kernel_rfl) (by kernel_rfl) (by kernel_rfl) (by kernel_rfl) (by kernel_rfl) h2
abbrev kRel : Kd (Int × Int × List Bool × List (List Int)) := Kd.pair (Kd.int .i64) (Kd.pair (Kd.int .i64) (Kd.pair (Kd.slice 4 Kd.bool) (Kd.slice 86 (Kd.slice 2 (Kd.int .i64)))))
theorem kRel_open {W : World} {y : Int × Int × List Bool × List (List Int)} {l : List Value} (h : kRel.K W y l) : ∃ A1 c1 A2 c2, l = [.int .i64 y.1, .int .i64 y.2.1, .slice A1 y.2.2.1.length c1, .slice A2 y.2.2.2.length c2] ∧ Go.Proofs.YtbamnonamdpooaaDoor.Lr.Arg W A1 c1 y.2.2.1 A2 c2 y.2.2.2 := by
 obtain ⟨_, _, rfl, rfl, ⟨_, _, rfl, rfl, ⟨_, _, rfl, ⟨A1, c1, rfl, h1, r1⟩, ⟨A2, c2, rfl, h2, r2⟩⟩⟩⟩ := h
 exact ⟨A1, c1, A2, c2, rfl, r1, h1, r2, h2⟩
theorem walk (W : World) (hG : Glob W) (l0 : List Value) (y0 : Int × Int × List Bool × List (List Int)) (k0 : kRel.K W y0 l0) (b0 : (Lit.int .i64 y0.1).wf = true ∧ (Lit.int .i64 y0.2.1).wf = true ∧ (y0.2.2.1.length ≤ 9223372036854775807 ∧ ∀ z ∈ y0.2.2.1, True) ∧ (y0.2.2.2.length ≤ 9223372036854775807 ∧ ∀ z ∈ y0.2.2.2, (z.length ≤ 9223372036854775807 ∧ ∀ z' ∈ z, (Lit.int .i64 z').wf = true))) :
  Calls Tryd.prog 3 #[.agg l0.toArray] W fun e W' => e = .returned (.bool true) ∧ Below W.heap.size W W' := by
 obtain ⟨A1, c1, A2, c2, rfl, hA⟩ := kRel_open k0
 exact Go.Proofs.YtbamnonamdpooaaDoor.Il.law_calls y0.1 y0.2.1 A1 c1 y0.2.2.1 A2 c2 y0.2.2.2 W hA hG b0.2.2.1.1 b0.2.2.2.1 (fun r hr => (b0.2.2.2.2 r hr).1)
end Go.Proofs.YtbamnonamdpooaaDoor.WFnExactIsLetterwise
namespace Go.Proofs.YtbamnonamdpooaaDoor.Reads
set_option linter.unusedVariables false
set_option linter.unusedSimpArgs false
open Go.RowKit Go.Deep Go.Proofs.YtbamnonamdpooaaDoorW.PrintWords
/-- Whatever is read at type t is of kind d, and B holds of it. -/
def Opens (P : Program) (t : TypeId) {α : Type} (d : Kd α) (B : α → Prop) : Prop :=
 P.cellsOf t = d.sz ∧ ∀ (H : Type) (enc : TypeId × Value → H) (w : World) (spare : Nat → Bool) (held : Bool) (fuel : Nat) (cs : List Value) (x : DataW H × List MemPlace),
  DataW.trod enc P w 0 spare held fuel t cs = some x → ∃ y, d.K w y cs ∧ B y
variable {P : Program} {t e : TypeId}
theorem opens_int {k : IntKind} (ht : P.underlying t = some (.int k)) (hc : P.cellsOf t = 1) : Opens P t (Kd.int k) (fun n => (Lit.int k n).wf = true) :=
 ⟨hc, fun H enc w spare held fuel cs x h => by
  obtain ⟨n, rfl, _, hw⟩ := DataW.trod_int ht h
  exact ⟨n, rfl, hw⟩⟩
theorem opens_bool (ht : P.underlying t = some .bool) (hc : P.cellsOf t = 1) : Opens P t Kd.bool (fun _ => True) :=
 ⟨hc, fun H enc w spare held fuel cs x h => by
  obtain ⟨b, rfl, _⟩ := DataW.trod_bool ht h
  exact ⟨b, rfl, trivial⟩⟩
theorem opens_slice {α : Type} {d : Kd α} {B : α → Prop} (ht : P.underlying t = some (.slice e)) (hc : P.cellsOf t = 1) (he : Opens P e d B) : Opens P t (Kd.slice e d) (fun l => l.length ≤ 9223372036854775807 ∧ ∀ x ∈ l, B x) :=
 ⟨hc, fun H enc w spare held fuel cs x h => by
  rcases open_slice ht h with ⟨rfl, _⟩ | ⟨a, len, cap, m, n, D, Pl, rfl, _, hl, hm, hmm, _, hx⟩
  ·exact ⟨[], ⟨none, 0, rfl, Nat.le_refl _, rfl, by simp, fun h => by simp at h⟩, by simp, by simp⟩
  ·have hlm : len ≤ m := by rw [hmm]; split <;> omega
   obtain ⟨hs, hr⟩ := he
   have hex : ∀ i, i < len → ∃ y, B y ∧ ∃ c, c.length = d.sz ∧ d.K w y c ∧ ∀ k u, c[k]? = some u → w.cell? (a.add (i * d.sz + k)) = some u := by
    intro i hi
    obtain ⟨c, h1, h2⟩ := hx i (by omega)
    obtain ⟨_, hcl, hcell⟩ := World.cells?_some h1
    obtain ⟨y, hy, hB⟩ := hr H enc w spare held n c _ h2
    refine ⟨y, hB, c, by rw [hcl, hs], hy, fun k u hu => ?_⟩
    have hk : k < P.cellsOf e := by rw [← hcl]; exact (List.getElem?_eq_some_iff.1 hu).1
    have := hcell k hk
    rw [hu] at this
    rw [← this, hs]
    have ea : ∀ (b : Addr) (x y : Nat), (b.add x).add y = b.add (x + y) := fun b x y => by
     unfold Addr.add
     by_cases hx0 : x = 0 <;> by_cases hy0 : y = 0 <;> simp [hx0, hy0, Nat.add_assoc]
    rw [ea]
   clear hx
   have key : ∀ n, n ≤ len → ∃ l : List α, l.length = n ∧ ∀ i, (hi : i < l.length) → B l[i] ∧ ∃ c, c.length = d.sz ∧ d.K w l[i] c ∧ ∀ k u, c[k]? = some u → w.cell? (a.add (i * d.sz + k)) = some u := by
    intro n
    induction n with
    | zero => intro _; exact ⟨[], rfl, fun i hi => by simp at hi⟩
    | succ n ih =>
     intro hn
     obtain ⟨l, hl1, hl2⟩ := ih (by omega)
     obtain ⟨y, hB, hy⟩ := hex n (by omega)
     refine ⟨l ++ [y], by simp [hl1], fun i hi => ?_⟩
     by_cases h' : i < l.length
     ·rw [List.getElem_append_left h']
      exact hl2 i h'
     ·have : i = l.length := by simp at hi; omega
      subst this
      simp only [List.getElem_append_right (Nat.le_refl _), Nat.sub_self, List.getElem_cons_zero]
      rw [hl1]
      exact ⟨hB, hy⟩
   obtain ⟨l, hl1, hl2⟩ := key len (Nat.le_refl _)
   unfold maxLen at hm
   refine ⟨l, ⟨some a, cap, by rw [hl1], by omega, rfl, by omega, fun _ => ⟨a, rfl, fun j p hp => ?_⟩⟩, by omega, fun x hx => ?_⟩
   ·obtain ⟨hj, rfl⟩ := List.getElem?_eq_some_iff.1 hp
    exact (hl2 j hj).2
   ·obtain ⟨i, hi, rfl⟩ := List.mem_iff_getElem.1 hx
    exact (hl2 i hi).1⟩
/-! Fields in line: 'At o cs' is what stands from o on. -/
set_option linter.unusedVariables false in
def Fields (P : Program) : List Field → Nat → (α : Type) → Kd α → (α → Prop) → Prop
 | [], _, _, _, _ => False
 | [f], o, α, d, B => f.offset = o ∧ Opens P f.type d B
 | f :: g :: fs, o, α, d, B => ∃ (β γ : Type) (b : Kd β) (c : Kd γ) (B1 : β → Prop) (B2 : γ → Prop) (h : α = (β × γ)), f.offset = o ∧ Opens P f.type b B1 ∧ Fields P (g :: fs) (o + b.sz) γ c B2 ∧
   h ▸ d = Kd.pair b c ∧ ∀ x, B x ↔ B1 (cast h x).1 ∧ B2 (cast h x).2
theorem fields_one {α : Type} {d : Kd α} {B : α → Prop} {f : Field} {o : Nat} (ho : f.offset = o) (h : Opens P f.type d B) : Fields P [f] o α d B := ⟨ho, h⟩
theorem fields_cons {β γ : Type} {b : Kd β} {c : Kd γ} {B1 : β → Prop} {B2 : γ → Prop} {f g : Field} {fs : List Field} {o : Nat} (ho : f.offset = o) (h : Opens P f.type b B1) (hr : Fields P (g :: fs) (o + b.sz) γ c B2) :
  Fields P (f :: g :: fs) o (β × γ) (Kd.pair b c) (fun x => B1 x.1 ∧ B2 x.2) := ⟨β, γ, b, c, B1, B2, rfl, ho, h, hr, rfl, fun _ => Iff.rfl⟩
theorem fields_read : ∀ (fs : List Field) (o : Nat) (α : Type) (d : Kd α) (B : α → Prop), Fields P fs o α d B → ∀ (H : Type) (enc : TypeId × Value → H) (w : World) (spare : Nat → Bool) (held : Bool) (n : Nat) (cs : List Value) (xs : List (DataW H × List MemPlace)),
  cs.length = o + d.sz → xs.length = fs.length → (∀ (i : Nat) (f : Field), fs[i]? = some f → DataW.trod enc P w 0 spare held n f.type ((cs.drop f.offset).take (P.cellsOf f.type)) = xs[i]?) → ∃ y, d.K w y (cs.drop o) ∧ B y
 | [], _, _, _, _, h => h.elim
 | [f], o, α, d, B, h => by
  obtain ⟨rfl, h⟩ := h
  intro H enc w spare held n cs xs hl hx hf
  have h0 := hf 0 f rfl
  obtain ⟨x, hx0⟩ : ∃ x, xs[0]? = some x := ⟨_, List.getElem?_eq_getElem (by rw [hx]; simp)⟩
  rw [hx0] at h0
  obtain ⟨y, hy, hB⟩ := h.2 H enc w spare held n _ _ h0
  refine ⟨y, ?_, hB⟩
  rw [List.take_of_length_le (by rw [h.1, List.length_drop, hl]; omega)] at hy
  exact hy
 | f :: g :: fs, o, α, d, B, h => by
  obtain ⟨β, γ, b, c, B1, B2, rfl, rfl, h1, h2, rfl, hB⟩ := h
  intro H enc w spare held n cs xs hl hx hf
  have h0 := hf 0 f rfl
  obtain ⟨x, hx0⟩ : ∃ x, xs[0]? = some x := ⟨_, List.getElem?_eq_getElem (by rw [hx]; simp)⟩
  rw [hx0] at h0
  obtain ⟨y, hy, hB1⟩ := h1.2 H enc w spare held n _ _ h0
  obtain ⟨z, hz, hB2⟩ := fields_read (g :: fs) (f.offset + b.sz) γ c B2 h2 H enc w spare held n cs (xs.drop 1) (by rw [hl]; show _ + (b.sz + c.sz) = _; omega) (by simp [hx]) (fun i f' hi => by
   rw [List.getElem?_drop, Nat.add_comm 1 i]
   exact hf (i + 1) f' (by simpa using hi))
  refine ⟨(y, z), ⟨_, _, ?_, hy, hz⟩, (hB (y, z)).2 ⟨hB1, hB2⟩⟩
  rw [h1.1, ← List.drop_drop, List.take_append_drop]
theorem opens_struct {α : Type} {d : Kd α} {B : α → Prop} {fs : Array Field} (ht : P.underlying t = some (.struct fs)) (hc : P.cellsOf t = d.sz) (h : Fields P fs.toList 0 α d B) : Opens P t d B :=
 ⟨hc, fun H enc w spare held fuel cs x hx => by
  obtain ⟨xs, n, _, _, hl, hlen, hf⟩ := DataW.trod_struct ht hx
  obtain ⟨y, hy, hB⟩ := fields_read fs.toList 0 α d B h H enc w spare held n cs xs (by rw [hl, hc]; omega) (by simpa using hlen) (fun i f hi => hf i f (by simpa using hi))
  exact ⟨y, hy, hB⟩⟩
/-- An argument: what it is made of. -/
theorem opens_arg {α : Type} {d : Kd α} {B : α → Prop} (h : Opens P t d B) {H : Type} {enc : TypeId × Value → H} {w : World} {spare : Nat → Bool} {held : Bool} {v : Value} {x : DataW H} {ps : List MemPlace}
  (hv : DataW.Trod enc P w 0 spare held t v x ps) : ∃ y, d.K w y v.cells.toList ∧ B y := by
 obtain ⟨fuel, hf⟩ := hv
 exact h.2 H enc w spare held fuel _ _ hf
end Go.Proofs.YtbamnonamdpooaaDoor.Reads
namespace Go.Proofs.YtbamnonamdpooaaDoor.LFnExactIsLetterwise
open Go.ChangeShapes Go.WideShapes Go.ChangeAt Go.RowKit Go.Proofs.YtbamnonamdpooaaDoorW.PrintWords Go.Proofs.YtbamnonamdpooaaDoor.Reads Go.Proofs.YtbamnonamdpooaaDoor.PT3
open Go.ChangeMaps (open_string shut_string)
theorem own : ownKnob Tryd.prog.godebug = none := by kernel_rfl
theorem laidOut : laidOutB Tryd.prog = true := by kernel_rfl
/-- The door's own heap meets the condition. -/
theorem door_met (os : Os) (args : Array Value) : laidMetH Tryd.prog Rows.fnExactIsLetterwiseRow.laid ((World.doorLaid Tryd.prog 72 os).forCall (fun _ _ => 0) ⟨#[], args, []⟩).memory :=
 laidMetH_of_parts3 (fuel := 8) (laidMet_of_run' 8 (by kernel_rfl) (by kernel_rfl)) (by kernel_rfl) (by kernel_rfl)
set_option maxRecDepth 100000 in
theorem lifted (os : Os) (started : os.Started) (H : Type) (enc : TypeId × Value → H) :
  ReturnsInHanded {} Tryd.checked os 3 .any (fun w args => (Rows.fnExactIsLetterwiseSpec.pre enc Tryd.prog Tryd.f3 [] false w args ∧ laidMetH Tryd.prog Rows.fnExactIsLetterwiseRow.laid w) ∧ sizedMet enc Tryd.prog Tryd.f3 (OpenSpec.ofChange Rows.fnExactIsLetterwiseSpec) false w args)
   (Rows.fnExactIsLetterwiseSpec.post enc Tryd.prog Tryd.f3 false true false false) := by
 refine returnsInHanded_of_change_and (C := Tryd.checked) (X := fun w _ => laidMetH Tryd.prog Rows.fnExactIsLetterwiseRow.laid w) (fun _ _ _ hh h => h.of_heap hh) own started (by kernel_rfl) Tryd.func3
  (ChangeSpec.witness_shaped (enc := enc) (C := Tryd.checked) (os := os) (X := fun w _ => laidMetH Tryd.prog Rows.fnExactIsLetterwiseRow.laid w) false (World.doorLaid Tryd.prog 72 os) #[.agg #[.int .i64 0, .int .i64 0, .slice none 0 0, .slice none 0 0]] 8 rfl (World.shaped_of_RefB (by kernel_rfl) (by kernel_rfl)) (by kernel_rfl) (by kernel_rfl) (by kernel_rfl) (door_met os _)) ?_
 intro W base args ds gs before hval0 hW hcnd hsz0 hL _
 have hval : ∀ (j : Nat) t v, Tryd.f3.params[j]? = some t → args[j]? = some v → Value.okWide Tryd.prog W .any base t v := hval0
 have hW' := hW
 obtain ⟨p, q, hA0, hV, rfl, hfz, hnd⟩ := hW
 have hA : DataW.TrodAll enc Tryd.prog W 0 (fun _ => true) true Tryd.f3.params.toList args.toList ds p := hA0
 rw [Tryd.params3] at hA hval
 obtain ⟨v0, vs0, d0, ds0, p0, q0, hargs, rfl, rfl, h0, r0⟩ := trodAll_cons hA
 obtain ⟨rfl, rfl, rfl⟩ := trodAll_nil r0
 obtain rfl : args = #[v0] := by cases args; simp_all
 obtain ⟨rfl, rfl⟩ := trodVars_none hV
 have k0 := h0
 have lt0 : ∀ x ∈ p0, x.block < W.heap.size := by obtain ⟨m, hm⟩ := k0; exact DataW.trod_lt m _ _ _ hm
 obtain ⟨y0, kk0, bb0⟩ := opens_arg (opens_struct Tryd.underlying25 (by kernel_rfl) (fields_cons rfl (opens_int Tryd.underlying2 (by kernel_rfl)) (fields_cons rfl (opens_int Tryd.underlying2 (by kernel_rfl)) (fields_cons rfl (opens_slice Tryd.underlying22 (by kernel_rfl) (opens_bool Tryd.underlying4 (by kernel_rfl))) (fields_one rfl (opens_slice Tryd.underlying23 (by kernel_rfl) (opens_slice Tryd.underlying86 (by kernel_rfl) (opens_int Tryd.underlying2 (by kernel_rfl))))))))) h0
 obtain ⟨ca0, rfl, _⟩ := okWide_struct Tryd.underlying25 (hval 0 25 v0 rfl rfl)
 obtain ⟨l0, rfl⟩ : ∃ l : List Value, ca0 = l.toArray := ⟨ca0.toList, by simp⟩
 replace kk0 : (Kd.pair (Kd.int .i64) (Kd.pair (Kd.int .i64) (Kd.pair (Kd.slice 4 Kd.bool) (Kd.slice 86 (Kd.slice 2 (Kd.int .i64)))))).K W y0 l0 := kk0
 clear hA0 hval0 hsz0
 refine (Go.Proofs.YtbamnonamdpooaaDoor.WFnExactIsLetterwise.walk W (WFnExactIsLetterwise.glob_of_laid hL) l0 y0 kk0 bb0).mono fun e W' ⟨he, bel⟩ => ?_
 subst he
 exact ⟨_, rfl, _, _, _, [], _, [], hW', trodAll_mk1 (shut_bool Tryd.underlying4 _), (trodAll_cons_mk (Below.trod laidOut (by kernel_rfl) (of_decide_eq_true (by kernel_rfl)) k0 bel lt0) trodAll_mk0), rfl, bel.frame _, fun h => by cases h⟩
theorem over : Rows.fnExactIsLetterwiseRow.holds Tryd.pinned (OpenSpec.ofChange Rows.fnExactIsLetterwiseSpec) :=
 OpenClaim.holds_of_wide 3 Tryd.f3 rfl rfl rfl rfl rfl rfl rfl ⟨rfl, rfl, rfl, rfl, rfl⟩ rfl rfl rfl rfl rfl (by kernel_rfl) Tryd.func3 (by kernel_rfl)
  (of_decide_eq_true (by kernel_rfl)) (by unfold Func.isWrapper; first | (rw [if_pos (by decide +kernel)]; kernel_rfl) | (rw [if_neg (by decide +kernel)]; exact ⟨rfl, rfl⟩))
  (fun os started H enc _ => lifted os started H enc)
theorem proved : Rows.FnExactIsLetterwiseSaid := over
#print axioms proved
end Go.Proofs.YtbamnonamdpooaaDoor.LFnExactIsLetterwise
namespace Go.Proofs.YtbamnonamdpooaaDoor
/-- The row, under a short name, for the claim. -/
theorem fnExactIsLetterwise_holds : Rows.FnExactIsLetterwiseSaid := LFnExactIsLetterwise.proved
end Go.Proofs.YtbamnonamdpooaaDoor
