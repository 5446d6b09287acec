/- Parts of the proof, put together by a program of the session. -/
import Derived.Test.YtnjdkhnepmmfgaaDoorCore0
import Derived.Test.YtnjdkhnepmmfgaaDoorCore2
import Derived.Test.YtnjdkhnepmmfgaaDoorProg
import Derived.Below
import Derived.Deep.Draws
import Derived.Deep.AppendLies
import Derived.Maps.AppendAt
import Derived.OwnWalk
import Derived.Laws.BytesArg
import Derived.Laws.MakeOwn
import Derived.Laws.OwnMore
import Derived.Deep.OwnRows
import Derived.Tactics
import Derived.Lib.ConvBytes
import Derived.Laws.Slices
import Derived.WalkKit
import Derived.KernelRfl
import Derived.RowKit3
import Derived.Deep.LoopGhost
import Derived.Deep.QuietTactic
import Derived.BigQuiet
import Derived.WideLaws
import Derived.Deep.DeepCutAuto
import Derived.Deep.CutBlock
import Derived.Deep.RegionHeld3
import Derived.Laws.Rows
import Derived.Lib.AppendStr
import Derived.ArgAppend
import Derived.Laws.IdiomCopy
import Derived.OrdersHeld
import Derived.Laws.BitsLemmas
import Derived.RowKit
import Derived.ChangeKeysEq
import Derived.Test.YtnjdkhnepmmfgaaDoorCWords
import Derived.Test.YtnjdkhnepmmfgaaDoorCLast
import Derived.Test.YtnjdkhnepmmfgaaDoorCTab
import Derived.Test.YtnjdkhnepmmfgaaDoorCFour
import Derived.Test.YtnjdkhnepmmfgaaDoorCQPut
import Derived.Test.YtnjdkhnepmmfgaaDoorCApart
import Derived.Test.YtnjdkhnepmmfgaaDoorCArr
import Derived.Test.YtnjdkhnepmmfgaaDoorCZeros
import Derived.Test.YtnjdkhnepmmfgaaDoorCFoot
import Derived.Test.YtnjdkhnepmmfgaaDoorCKept
import Derived.Test.YtnjdkhnepmmfgaaDoorCShare
import Derived.Test.YtnjdkhnepmmfgaaDoorCN
import Derived.Test.YtnjdkhnepmmfgaaDoorCFootNe
import Derived.Test.YtnjdkhnepmmfgaaDoorCAt
import Derived.Test.YtnjdkhnepmmfgaaDoorCEqStruct
import Derived.Test.YtnjdkhnepmmfgaaDoorCRepsOne
import Derived.Test.YtnjdkhnepmmfgaaDoorCInv
import Derived.Test.YtnjdkhnepmmfgaaDoorCInvWords
import Derived.Test.YtnjdkhnepmmfgaaDoorCGuard
import Derived.Test.YtnjdkhnepmmfgaaDoorCNEv
import Derived.Test.YtnjdkhnepmmfgaaDoorCMore
import Derived.Test.YtnjdkhnepmmfgaaDoorCore1
namespace Go.Proofs.YtnjdkhnepmmfgaaDoor.PB1
open Go.RowKit Go.Proofs.YtnjdkhnepmmfgaaDoorW.PrintWords Go.Proofs.YtnjdkhnepmmfgaaDoorW.PrintLast Go.Proofs.YtnjdkhnepmmfgaaDoorW.PrintMore
attribute [local go_sem] max2_int min2_int max_two min_two max_three min_three max_four min_four   -- for this text's walks alone
set_option linter.unusedVariables false
set_option linter.unusedSimpArgs false
/-! ### impl_powerOf: function 110 -/
def impl_powerOf.l0 : Nat → Int → Int → Option (Int)
 | 0, _, _ => none
 | k + 1, x0, x3 => if x0 > 0 then (impl_powerOf.l0 k (wrap64 (x0 - 1)) (wrap64 (x3 * 3))) else (some x3)
def impl_powerOf.f (k : Nat) (a0 : Int) : Option (Int) := impl_powerOf.l0 k a0 1
set_option maxHeartbeats 8000000 in
set_option maxRecDepth 100000 in
theorem impl_powerOf.calls (k : Nat) (a0 : Int) (r : Int) (w : World) (h : impl_powerOf.f k a0 = some r) :
  Calls Tryd.prog 110 #[.int .i64 a0] w fun e w' => e = .returned (.int .i64 r) ∧ Drawn0 w w' := by
 have H : (impl_powerOf.l0 k a0 1) = some r := h
 clear h
 have H' := Aside0.mk H
 clear H
 go_enter Tryd.func110, Tryd.ntmps110
 go_wp2
 go_loopg [0, 3] k (fun kq v0 v3 w' => ∃ (x0_1 : Int) (x3_1 : Int), v0 = .int .i64 x0_1 ∧ v3 = .int .i64 x3_1 ∧ Aside0 (impl_powerOf.l0 kq x0_1 x3_1 = some r) ∧ Aside0 (kq ≤ k) ∧ Drawn0 w w')
 case atStart => exact ⟨(a0), (1), (by first | rfl | (simp; done) | (simp [*]; done) | (simp [wrap64]; done)), (by first | rfl | (simp; done) | (simp [*]; done) | (simp [wrap64]; done)), H', ⟨Nat.le_refl _⟩, by repeat (first | exact Drawn0.refl _ | apply Drawn0.step)⟩
 case round =>
  clear H'
  try clear c1
  obtain ⟨x0_1, x3_1, rfl, rfl, HA, HK1, ⟨m1, rfl⟩⟩ := hrel
  cases gk with
  | zero => exact absurd HA.out (by simp [impl_powerOf.l0])
  | succ k1 =>
   have H := HA.out
   clear HA
   simp only [impl_powerOf.l0] at H
   by_cases c2 : x0_1 > 0
   ·rw [if_pos c2] at H
    have c2b0 : decide (0 < x0_1) = true := decide_eq_true c2
    clear c2
    have H' := Aside0.mk H
    clear H
    go_wp2
    go_roundg k1
    case measure => have := HK1.out; omega
    case rel => exact ⟨(wrap64 (x0_1 - 1)), (wrap64 (x3_1 * 3)), (by first | rfl | (simp; done) | (simp [*]; done) | (simp [wrap64]; done)), (by first | rfl | (simp; done) | (simp [*]; done) | (simp [wrap64]; done)), H', ⟨by have := HK1.out; omega⟩, by repeat (first | exact Drawn0.refl _ | apply Drawn0.step)⟩
   ·rw [if_neg c2] at H
    have c2b0 : decide (0 < x0_1) = false := decide_eq_false c2
    clear c2
    obtain rfl := Option.some.inj H
    simp only [Option.some.injEq, Prod.mk.injEq] at H
    obtain ⟨rfl⟩ := H
    go_wp2
    go_ret
    exact ⟨by first | rfl | (simp; done) | (simp [*]; done) | (simp [wrap64]; done), by repeat (first | exact Drawn0.refl _ | apply Drawn0.step)⟩
/-! ### impl_widthOf: function 94 -/
def impl_widthOf.f (k : Nat) (a0 : Int) : Option (Int) := (impl_powerOf.f k a0).bind fun t101 => (some (wrap64 (t101 - 1)))
set_option maxHeartbeats 8000000 in
set_option maxRecDepth 100000 in
theorem impl_widthOf.calls (k : Nat) (a0 : Int) (r : Int) (w : World) (h : impl_widthOf.f k a0 = some r) :
  Calls Tryd.prog 94 #[.int .i64 a0] w fun e w' => e = .returned (.int .i64 r) ∧ Drawn0 w w' := by
 have H : ((impl_powerOf.f k a0).bind fun t101 => (some (wrap64 (t101 - 1)))) = some r := h
 clear h
 replace H := Option.bind_eq_some_iff.mp H
 obtain ⟨t101, A20, H⟩ := H
 replace H : (some (wrap64 (t101 - 1))) = some r := H
 have A2 := Aside0.mk A20
 clear A20
 obtain rfl := Option.some.inj H
 simp only [Option.some.injEq, Prod.mk.injEq] at H
 obtain ⟨rfl⟩ := H
 go_enter Tryd.func94, Tryd.ntmps94
 go_wp2_with (first | ((with_reducible refine gate_callee (f := 110) rfl ?_); refine goesL_ (some 4) rfl rfl Tryd.func110 (by kernel_rfl) rfl #[.int .i64 a0] rfl (by (try simp only [List.map_toArray, List.map_cons, List.map_nil]); first | done | rfl | (simp only [List.length_drop, List.length_take]; rfl)) ?_; (with_reducible refine (impl_powerOf.calls k a0 t101 _ A2.out).mono ?_); rintro e w' ⟨rfl, ⟨nd, rfl⟩⟩; refine ⟨_, rfl, ?_⟩))
 go_ret
 exact ⟨by first | rfl | (simp; done) | (simp [*]; done) | (simp [wrap64]; done), by repeat (first | exact Drawn0.refl _ | apply Drawn0.step)⟩
/-! ### impl_digitsOf: function 62 -/
def impl_digitsOf.l0 : Nat → Int → Int → List Int → Option (List Int)
 | 0, _, _, _ => none
 | k + 1, x0, x1, x5 => if x0 > 0 then (if x5.length < 17592186044416 then (impl_digitsOf.l0 k (wrap64 (x0 - 1)) (wrap64 (Int.tdiv x1 3)) (x5 ++ [Int.tmod x1 3])) else (none)) else (some x5)
def impl_digitsOf.f (k : Nat) (a0 : Int) (a1 : Int) : Option (List Int) := impl_digitsOf.l0 k a0 a1 ([] : List Int)
set_option maxHeartbeats 8000000 in
set_option maxRecDepth 100000 in
theorem impl_digitsOf.calls (k : Nat) (a0 : Int) (a1 : Int) (r : List Int) (w : World) (h : impl_digitsOf.f k a0 a1 = some r) :
  Calls Tryd.prog 62 #[.int .i64 a0, .int .i64 a1] w fun e w' => ∃ v0_ : Value, e = .returned (v0_) ∧ Kd.R (Kd.int .i64) 3 w' w.heap.size (fun _ => True) v0_ r ∧ Below w.heap.size w w' := by
 have HB := Aside0.mk (Below.refl w.heap.size w)
 have H : (impl_digitsOf.l0 k a0 a1 ([] : List Int)) = some r := h
 clear h
 have H' := Aside0.mk H
 clear H
 go_enter Tryd.func62, Tryd.ntmps62
 go_wp2
 go_loopg [0, 1, 5] k (fun kq v0 v1 v5 w' => ∃ (x0_1 : Int) (x1_1 : Int) (x5_1 : List Int), v0 = .int .i64 x0_1 ∧ v1 = .int .i64 x1_1 ∧ Aside0 (impl_digitsOf.l0 kq x0_1 x1_1 x5_1 = some r) ∧ Aside0 (kq ≤ k) ∧ Aside0 (Kd.R (Kd.int .i64) 3 w' w.heap.size (fun _ => True) v5 x5_1) ∧ Aside0 (Below w.heap.size w w'))
 case atStart => exact ⟨(a0), (a1), (([] : List Int)), (by first | rfl | (simp; done) | (simp [*]; done) | (simp [wrap64]; done)), (by first | rfl | (simp; done) | (simp [*]; done) | (simp [wrap64]; done)), H', ⟨Nat.le_refl _⟩, ⟨by first | exact Kd.R_nil _ _ _ _ _ | exact Kd.N_nil _ _ _ _ _ | exact Kd.V_nil _ _ _ _ _ | exact Kd.Q_nil _ _ _ _ _ | exact Kd.S_nil _ _ _ _ _⟩, ⟨by repeat (first | (with_reducible first | exact HB.out | apply below_alloc | apply pw_below_drewN | apply below_drew1) | exact HB.out)⟩⟩
 case round =>
  clear H'
  try clear p2
  obtain ⟨x0_1, x1_1, x5_1, rfl, rfl, HA, HK1, HO_5, HB⟩ := hrel
  cases gk with
  | zero => exact absurd HA.out (by simp [impl_digitsOf.l0])
  | succ k1 =>
   have H := HA.out
   clear HA
   simp only [impl_digitsOf.l0] at H
   by_cases c3 : x0_1 > 0
   ·rw [if_pos c3] at H
    have c3b0 : decide (0 < x0_1) = true := decide_eq_true c3
    clear c3
    by_cases c4 : x5_1.length < 17592186044416
    ·rw [if_pos c4] at H
     have LMc4 := Aside0.mk c4
     clear c4
     obtain ⟨y102, hy102⟩ : ∃ y_ : List Int, y_ = (x5_1 ++ [Int.tmod x1_1 3]) := ⟨_, rfl⟩
     replace H : (impl_digitsOf.l0 k1 (wrap64 (x0_1 - 1)) (wrap64 (Int.tdiv x1_1 3)) y102) = some r := by first | (rw [hy102]; with_reducible exact H) | (have H2_ := (Option.bind_some _ _).symm.trans H; rw [hy102]; with_reducible exact H2_) | (have H2_ := (Option.bind_some _ _).symm.trans H; with_reducible exact H2_) | with_reducible exact H | (rw [hy102]; exact H) | exact H
     have Ny102 := Aside0.mk hy102
     clear hy102
     have H' := Aside0.mk H
     clear H
     go_wp2_with (first | ((with_reducible refine gate_builtin (b := .append) (xs := #[.tmp 10, .tmp 13]) rfl ?_); at_builtin; refine Kd.R_append (Kd.int .i64) (w0 := w) w.heap.size rfl (.tmp 10) (.tmp 13) 87 3 (.int .i64 0) 8 rfl Tryd.underlying87 info3 rfl (by decide) (by omega) u5 x5_1 (Int.tmod x1_1 3) [.int .i64 (Int.tmod x1_1 3)] (fun _ => True) (fun _ => False) rfl rfl ?aP (fun _ hk => hk.elim) ?aF ?aO ?aB ?aS ?aL ?_; (case aP => exact rfl); (case aB => exact (by repeat (first | (with_reducible first | exact HB.out | apply below_alloc | apply pw_below_drewN | apply below_drew1) | exact HB.out))); (case aF => exact (fun _ _ => trivial)); (case aO => exact (by (with_reducible repeat (first | apply Kd.R_alloc | apply Kd.R_drewN | apply Kd.R_drew)); exact HO_5.out)); (case aS => exact (below_size (by repeat (first | (with_reducible first | exact HB.out | apply below_alloc | apply pw_below_drewN | apply below_drew1) | exact HB.out)))); (case aL => have := LMc4.out; omega); intro v103 w5 ho hb hg hat; rw [← Ny102.out] at ho; have n0_ := Aside0.mk (hb); have n1_ := Aside0.mk (ho); clear HB; clear HO_5; have HB := n0_; have HO104 := n1_; clear n0_ n1_; clear ho hb hg hat))
     go_roundg k1
     case measure => have := HK1.out; omega
     case rel => exact ⟨(wrap64 (x0_1 - 1)), (wrap64 (Int.tdiv x1_1 3)), (y102), (by first | rfl | (simp; done) | (simp [*]; done) | (simp [wrap64]; done)), (by first | rfl | (simp; done) | (simp [*]; done) | (simp [wrap64]; done)), H', ⟨by have := HK1.out; omega⟩, ⟨by (with_reducible repeat (first | apply Kd.R_alloc | apply Kd.R_drewN | apply Kd.R_drew)); exact HO104.out⟩, ⟨by repeat (first | (with_reducible first | exact HB.out | apply below_alloc | apply pw_below_drewN | apply below_drew1) | exact HB.out)⟩⟩
    ·rw [if_neg c4] at H
     exact absurd H (by simp)
   ·rw [if_neg c3] at H
    have c3b0 : decide (0 < x0_1) = false := decide_eq_false c3
    clear c3
    obtain rfl := Option.some.inj H
    simp only [Option.some.injEq, Prod.mk.injEq] at H
    obtain ⟨rfl⟩ := H
    go_wp2
    go_ret
    exact ⟨_, by first | rfl | (simp [errW_none, errW_some] <;> rfl) | (simp [*, errW_none, errW_some] <;> rfl), by (with_reducible repeat (first | apply Kd.R_alloc | apply Kd.R_drewN | apply Kd.R_drew)); exact HO_5.out, by repeat (first | (with_reducible first | exact HB.out | apply below_alloc | apply pw_below_drewN | apply below_drew1) | exact HB.out)⟩
/-! ### spec_l01Power: function 91 -/
def spec_l01Power.l0 : Nat → Int → Int → Option (Int)
 | 0, _, _ => none
 | k + 1, x0, x3 => if x0 > 0 then (spec_l01Power.l0 k (wrap64 (x0 - 1)) (wrap64 (3 * x3))) else (some x3)
def spec_l01Power.f (k : Nat) (a0 : Int) : Option (Int) := spec_l01Power.l0 k a0 1
set_option maxHeartbeats 8000000 in
set_option maxRecDepth 100000 in
theorem spec_l01Power.calls (k : Nat) (a0 : Int) (r : Int) (w : World) (h : spec_l01Power.f k a0 = some r) :
  Calls Tryd.prog 91 #[.int .i64 a0] w fun e w' => e = .returned (.int .i64 r) ∧ Drawn0 w w' := by
 have H : (spec_l01Power.l0 k a0 1) = some r := h
 clear h
 have H' := Aside0.mk H
 clear H
 go_enter Tryd.func91, Tryd.ntmps91
 go_wp2
 go_loopg [0, 3] k (fun kq v0 v3 w' => ∃ (x0_1 : Int) (x3_1 : Int), v0 = .int .i64 x0_1 ∧ v3 = .int .i64 x3_1 ∧ Aside0 (spec_l01Power.l0 kq x0_1 x3_1 = some r) ∧ Aside0 (kq ≤ k) ∧ Drawn0 w w')
 case atStart => exact ⟨(a0), (1), (by first | rfl | (simp; done) | (simp [*]; done) | (simp [wrap64]; done)), (by first | rfl | (simp; done) | (simp [*]; done) | (simp [wrap64]; done)), H', ⟨Nat.le_refl _⟩, by repeat (first | exact Drawn0.refl _ | apply Drawn0.step)⟩
 case round =>
  clear H'
  obtain ⟨x0_1, x3_1, rfl, rfl, HA, HK1, ⟨m1, rfl⟩⟩ := hrel
  cases gk with
  | zero => exact absurd HA.out (by simp [spec_l01Power.l0])
  | succ k1 =>
   have H := HA.out
   clear HA
   simp only [spec_l01Power.l0] at H
   by_cases c2 : x0_1 > 0
   ·rw [if_pos c2] at H
    have c2b0 : decide (0 < x0_1) = true := decide_eq_true c2
    clear c2
    have H' := Aside0.mk H
    clear H
    go_wp2
    go_roundg k1
    case measure => have := HK1.out; omega
    case rel => exact ⟨(wrap64 (x0_1 - 1)), (wrap64 (3 * x3_1)), (by first | rfl | (simp; done) | (simp [*]; done) | (simp [wrap64]; done)), (by first | rfl | (simp; done) | (simp [*]; done) | (simp [wrap64]; done)), H', ⟨by have := HK1.out; omega⟩, by repeat (first | exact Drawn0.refl _ | apply Drawn0.step)⟩
   ·rw [if_neg c2] at H
    have c2b0 : decide (0 < x0_1) = false := decide_eq_false c2
    clear c2
    obtain rfl := Option.some.inj H
    simp only [Option.some.injEq, Prod.mk.injEq] at H
    obtain ⟨rfl⟩ := H
    go_wp2
    go_ret
    exact ⟨by first | rfl | (simp; done) | (simp [*]; done) | (simp [wrap64]; done), by repeat (first | exact Drawn0.refl _ | apply Drawn0.step)⟩
/-! ### spec_l01Wide: function 53 -/
def spec_l01Wide.f (k : Nat) (a0 : Int) : Option (Int) := (spec_l01Power.f k a0).bind fun t105 => (some (wrap64 (t105 - 1)))
set_option maxHeartbeats 8000000 in
set_option maxRecDepth 100000 in
theorem spec_l01Wide.calls (k : Nat) (a0 : Int) (r : Int) (w : World) (h : spec_l01Wide.f k a0 = some r) :
  Calls Tryd.prog 53 #[.int .i64 a0] w fun e w' => e = .returned (.int .i64 r) ∧ Drawn0 w w' := by
 have H : ((spec_l01Power.f k a0).bind fun t105 => (some (wrap64 (t105 - 1)))) = some r := h
 clear h
 replace H := Option.bind_eq_some_iff.mp H
 obtain ⟨t105, A20, H⟩ := H
 replace H : (some (wrap64 (t105 - 1))) = some r := H
 have A2 := Aside0.mk A20
 clear A20
 obtain rfl := Option.some.inj H
 simp only [Option.some.injEq, Prod.mk.injEq] at H
 obtain ⟨rfl⟩ := H
 go_enter Tryd.func53, Tryd.ntmps53
 go_wp2_with (first | ((with_reducible refine gate_callee (f := 91) rfl ?_); refine goesL_ (some 4) rfl rfl Tryd.func91 (by kernel_rfl) rfl #[.int .i64 a0] rfl (by (try simp only [List.map_toArray, List.map_cons, List.map_nil]); first | done | rfl | (simp only [List.length_drop, List.length_take]; rfl)) ?_; (with_reducible refine (spec_l01Power.calls k a0 t105 _ A2.out).mono ?_); rintro e w' ⟨rfl, ⟨nd, rfl⟩⟩; refine ⟨_, rfl, ?_⟩))
 go_ret
 exact ⟨by first | rfl | (simp; done) | (simp [*]; done) | (simp [wrap64]; done), by repeat (first | exact Drawn0.refl _ | apply Drawn0.step)⟩
/-! ### spec_l01Digit: function 54 -/
def spec_l01Digit.f (k : Nat) (a0 : Int) (a1 : Int) : Option (Int) := (spec_l01Power.f k a1).bind fun t106 => (if t106 = 0 then (none) else (some (Int.tmod (wrap64 (Int.tdiv a0 t106)) 3)))
set_option maxHeartbeats 8000000 in
set_option maxRecDepth 100000 in
theorem spec_l01Digit.calls (k : Nat) (a0 : Int) (a1 : Int) (r : Int) (w : World) (h : spec_l01Digit.f k a0 a1 = some r) :
  Calls Tryd.prog 54 #[.int .i64 a0, .int .i64 a1] w fun e w' => e = .returned (.int .i64 r) ∧ Drawn0 w w' := by
 have H : ((spec_l01Power.f k a1).bind fun t106 => (if t106 = 0 then (none) else (some (Int.tmod (wrap64 (Int.tdiv a0 t106)) 3)))) = some r := h
 clear h
 replace H := Option.bind_eq_some_iff.mp H
 obtain ⟨t106, A30, H⟩ := H
 replace H : (if t106 = 0 then (none) else (some (Int.tmod (wrap64 (Int.tdiv a0 t106)) 3))) = some r := H
 have A3 := Aside0.mk A30
 clear A30
 by_cases c4 : t106 = 0
 ·rw [if_pos c4] at H
  exact absurd H (by simp)
 ·rw [if_neg c4] at H
  have c4b0 : (t106 == 0) = false := beq_eq_false_iff_ne.mpr c4
  have c4b1 : (t106 != 0) = true := bne_iff_ne.mpr c4
  obtain rfl := Option.some.inj H
  simp only [Option.some.injEq, Prod.mk.injEq] at H
  obtain ⟨rfl⟩ := H
  go_enter Tryd.func54, Tryd.ntmps54
  go_wp2_with (first | ((with_reducible refine gate_callee (f := 91) rfl ?_); refine goesL_ (some 7) rfl rfl Tryd.func91 (by kernel_rfl) rfl #[.int .i64 a1] rfl (by (try simp only [List.map_toArray, List.map_cons, List.map_nil]); first | done | rfl | (simp only [List.length_drop, List.length_take]; rfl)) ?_; (with_reducible refine (spec_l01Power.calls k a1 t106 _ A3.out).mono ?_); rintro e w' ⟨rfl, ⟨nd, rfl⟩⟩; refine ⟨_, rfl, ?_⟩))
  go_ret
  exact ⟨by first | rfl | (simp; done) | (simp [*]; done) | (simp [wrap64]; done), by repeat (first | exact Drawn0.refl _ | apply Drawn0.step)⟩
/-! ### spec_l01Ended: function 104 -/
mutual
def spec_l01Ended.l0 : Nat → Int → Int → Int → Int → Option (Int)
 | 0, _, _, _, _ => none
 | k + 1, x0, x1, x2, x7 => if x7 < x0 then ((spec_l01Digit.f k x2 x7).bind fun t107 => (if t107 = 2 then (spec_l01Ended.j1 k x0 x1 x2 x7 (t107 == 2) false) else (if 0 ≤ (IntKind.u64.wrap (x7)) then (spec_l01Ended.j1 k x0 x1 x2 x7 (t107 == 2) ((Go.bits .and .i64 (shr .i64 x1 (IntKind.u64.wrap (x7))) 1) == 1)) else (none)))) else (some x1)
def spec_l01Ended.j1 : Nat → Int → Int → Int → Int → Bool → Bool → Option (Int)
 | 0, _, _, _, _, _, _ => none
 | k + 1, x0, x1, x2, x7, x8, x27 => if x27 = true then (some (-1)) else (if x8 = true then (if 0 ≤ (IntKind.u64.wrap (x7)) then (spec_l01Ended.l0 k x0 (Go.bits .or .i64 x1 (shl .i64 1 (IntKind.u64.wrap (x7)))) x2 (wrap64 (x7 + 1))) else (none)) else (spec_l01Ended.l0 k x0 x1 x2 (wrap64 (x7 + 1))))
end
def spec_l01Ended.f (k : Nat) (a0 : Int) (a1 : Int) (a2 : Int) : Option (Int) := spec_l01Ended.l0 k a0 a1 a2 0
set_option maxHeartbeats 8000000 in
set_option maxRecDepth 100000 in
theorem spec_l01Ended.calls (k : Nat) (a0 : Int) (a1 : Int) (a2 : Int) (r : Int) (w : World) (h : spec_l01Ended.f k a0 a1 a2 = some r) :
  Calls Tryd.prog 104 #[.int .i64 a0, .int .i64 a1, .int .i64 a2] w fun e w' => e = .returned (.int .i64 r) ∧ Drawn0 w w' := by
 have H : (spec_l01Ended.l0 k a0 a1 a2 0) = some r := h
 clear h
 have H' := Aside0.mk H
 clear H
 go_enter Tryd.func104, Tryd.ntmps104
 go_wp2
 go_loopg [1, 7] k (fun kq v1 v7 w' => ∃ (x1_1 : Int) (x7_1 : Int), v1 = .int .i64 x1_1 ∧ v7 = .int .i64 x7_1 ∧ Aside0 (spec_l01Ended.l0 kq a0 x1_1 a2 x7_1 = some r) ∧ Aside0 (kq ≤ k) ∧ Drawn0 w w')
 case atStart => exact ⟨(a1), (0), (by first | rfl | (simp; done) | (simp [*]; done) | (simp [wrap64]; done)), (by first | rfl | (simp; done) | (simp [*]; done) | (simp [wrap64]; done)), H', ⟨Nat.le_refl _⟩, by repeat (first | exact Drawn0.refl _ | apply Drawn0.step)⟩
 case round =>
  clear H'
  try clear c1
  try clear p2
  obtain ⟨x1_1, x7_1, rfl, rfl, HA, HK1, ⟨m1, rfl⟩⟩ := hrel
  cases gk with
  | zero => exact absurd HA.out (by simp [spec_l01Ended.l0])
  | succ k1 =>
   have H := HA.out
   clear HA
   simp only [spec_l01Ended.l0] at H
   by_cases c4 : x7_1 < a0
   ·rw [if_pos c4] at H
    have c4b0 : decide (x7_1 < a0) = true := decide_eq_true c4
    clear c4
    replace H := Option.bind_eq_some_iff.mp H
    obtain ⟨t107, A50, H⟩ := H
    replace H : (if t107 = 2 then (spec_l01Ended.j1 k1 a0 x1_1 a2 x7_1 (t107 == 2) false) else (if 0 ≤ (IntKind.u64.wrap (x7_1)) then (spec_l01Ended.j1 k1 a0 x1_1 a2 x7_1 (t107 == 2) ((Go.bits .and .i64 (shr .i64 x1_1 (IntKind.u64.wrap (x7_1))) 1) == 1)) else (none))) = some r := H
    have A5 := Aside0.mk A50
    clear A50
    have HC6 := Aside0.mk H
    clear H
    go_upto_region 5 with (first | ((with_reducible refine gate_callee (f := 54) rfl ?_); refine goesL_ (some 16) rfl rfl Tryd.func54 (by kernel_rfl) rfl #[.int .i64 a2, .int .i64 x7_1] rfl (by (try simp only [List.map_toArray, List.map_cons, List.map_nil]); first | done | rfl | (simp only [List.length_drop, List.length_take]; rfl)) ?_; (with_reducible refine (spec_l01Digit.calls k1 a2 x7_1 t107 _ A5.out).mono ?_); rintro e w' ⟨rfl, ⟨nd, rfl⟩⟩; refine ⟨_, rfl, ?_⟩))
    (try simp only [Act.put, List.setIfInBounds_toArray, List.set_cons_zero, List.set_cons_succ])
    obtain ⟨bq, hbq⟩ : ∃ b : Bool, Aside0 ((t107 == 2) = b) := ⟨_, ⟨rfl⟩⟩
    rw [hbq.out]
    go_cut [27] (fun v27 wc => ∃ (kq : Nat) (x27_5 : Bool), v27 = .bool x27_5 ∧ Aside0 (spec_l01Ended.j1 kq a0 x1_1 a2 x7_1 bq x27_5 = some r) ∧ Aside0 (kq ≤ k1) ∧ Drawn0 w wc)
    case first =>
     have H := HC6.out
     clear HC6
     by_cases c7 : t107 = 2
     ·rw [if_pos c7] at H
      have c7b0 : (t107 == 2) = true := beq_iff_eq.mpr c7
      obtain rfl : bq = true := by rw [← hbq.out]; exact c7b0
      rw [c7b0] at H
      have c7b1 : (t107 != 2) = false := bne_eq_false_iff_eq.mpr c7
      clear c7
      (first | rw [c7b0] | (simp only [i64_w, i32_w]; rw [c7b0]) | skip)
      have H' := Aside0.mk H
      clear H
      go_wp2
      go_meet
      case rel => exact ⟨_, (false), (by first | rfl | (simp; done) | (simp [*]; done) | (simp [wrap64]; done)), H', ⟨by have := HK1.out; first | omega | exact Nat.le_refl _⟩, by repeat (first | exact Drawn0.refl _ | apply Drawn0.step)⟩
     ·rw [if_neg c7] at H
      have c7b0 : (t107 == 2) = false := beq_eq_false_iff_ne.mpr c7
      obtain rfl : bq = false := by rw [← hbq.out]; exact c7b0
      rw [c7b0] at H
      have c7b1 : (t107 != 2) = true := bne_iff_ne.mpr c7
      (first | rw [c7b0] | (simp only [i64_w, i32_w]; rw [c7b0]) | skip)
      obtain ⟨ji8, hji8⟩ : ∃ j_ : Int, (IntKind.u64.wrap (x7_1)) = j_ := ⟨_, rfl⟩
      replace H : (if 0 ≤ (ji8) then (spec_l01Ended.j1 k1 a0 x1_1 a2 x7_1 false ((Go.bits .and .i64 (shr .i64 x1_1 (ji8)) 1) == 1)) else (none)) = some r := by first | (rw [hji8] at H; exact H) | (simp only [hji8] at H ⊢; exact H)
      by_cases c9 : 0 ≤ (ji8)
      ·rw [if_pos c9] at H
       have c9b0 := eq_true c9
       have c9b1 : decide (0 ≤ (ji8)) = true := decide_eq_true c9
       clear c9
       obtain ⟨ji10, hji10⟩ : ∃ j_ : Int, (shr .i64 x1_1 (ji8)) = j_ := ⟨_, rfl⟩
       replace H : (spec_l01Ended.j1 k1 a0 x1_1 a2 x7_1 false ((Go.bits .and .i64 (ji10) 1) == 1)) = some r := by first | (rw [hji10] at H; exact H) | (simp only [hji10] at H ⊢; exact H)
       have hji10_ : (x1_1 / 2 ^ min (ji8).toNat 64) = ji10 := hji10
       have hji10z : (ji8) ≤ 64 → (x1_1 / 2 ^ (ji8).toNat) = ji10 := shr_small hji10
       have H' := Aside0.mk H
       clear H
       go_wp2
       go_meet
       case rel => exact ⟨_, (((Go.bits .and .i64 (ji10) 1) == 1)), (by first | rfl | (simp; done) | (simp only [← hji10] <;> (first | rfl | simp)) | (simp [*]; done)), H', ⟨by have := HK1.out; first | omega | exact Nat.le_refl _⟩, by repeat (first | exact Drawn0.refl _ | apply Drawn0.step)⟩
      ·rw [if_neg c9] at H
       exact absurd H (by simp)
    case rest =>
     clear HC6
     try clear c1
     try clear p2
     try clear c4
     try clear c4b0
     try clear c5
     try clear p6
     try clear c7
     try clear c7b0
     try clear c7b1
     try clear c9
     try clear c9b0
     try clear c9b1
     try clear c10
     try clear p2
     obtain ⟨kq, x27_5, rfl, HA, HJ5, ⟨mc5, rfl⟩⟩ := hcut
     cases kq with
     | zero => exact absurd HA.out (by simp [spec_l01Ended.j1])
     | succ kj5 =>
      have H := HA.out
      clear HA
      simp only [spec_l01Ended.j1] at H
      by_cases c11 : x27_5 = true
      ·subst c11
       have H1 : (some (-1)) = some r := by rw [if_pos rfl] at H; exact H
       clear H
       have H := H1
       clear H1
       obtain rfl := Option.some.inj H
       simp only [Option.some.injEq, Prod.mk.injEq] at H
       obtain ⟨rfl⟩ := H
       go_wp2
       go_ret
       exact ⟨by first | rfl | (simp; done) | (simp [*]; done) | (simp [wrap64]; done), by repeat (first | exact Drawn0.refl _ | apply Drawn0.step)⟩
      ·replace c11 := Bool.eq_false_iff.mpr c11
       subst c11
       have H1 : (if bq = true then (if 0 ≤ (IntKind.u64.wrap (x7_1)) then (spec_l01Ended.l0 kj5 a0 (Go.bits .or .i64 x1_1 (shl .i64 1 (IntKind.u64.wrap (x7_1)))) a2 (wrap64 (x7_1 + 1))) else (none)) else (spec_l01Ended.l0 kj5 a0 x1_1 a2 (wrap64 (x7_1 + 1)))) = some r := by rw [if_neg (show ¬ (false = true) by decide)] at H; exact H
       clear H
       have H := H1
       clear H1
       by_cases c12 : bq = true
       ·rw [if_pos c12] at H
        obtain rfl : bq = true := c12
        obtain ⟨ji13, hji13⟩ : ∃ j_ : Int, (IntKind.u64.wrap (x7_1)) = j_ := ⟨_, rfl⟩
        replace H : (if 0 ≤ (ji13) then (spec_l01Ended.l0 kj5 a0 (Go.bits .or .i64 x1_1 (shl .i64 1 (ji13))) a2 (wrap64 (x7_1 + 1))) else (none)) = some r := by first | (rw [hji13] at H; exact H) | (simp only [hji13] at H ⊢; exact H)
        by_cases c14 : 0 ≤ (ji13)
        ·rw [if_pos c14] at H
         have c14b0 := eq_true c14
         have c14b1 : decide (0 ≤ (ji13)) = true := decide_eq_true c14
         clear c14
         obtain ⟨ji15, hji15⟩ : ∃ j_ : Int, (shl .i64 1 (ji13)) = j_ := ⟨_, rfl⟩
         replace H : (spec_l01Ended.l0 kj5 a0 (Go.bits .or .i64 x1_1 (ji15)) a2 (wrap64 (x7_1 + 1))) = some r := by first | (rw [hji15] at H; exact H) | (simp only [hji15] at H ⊢; exact H)
         have hji15_ : (IntKind.i64.wrap (1 * 2 ^ min (ji13).toNat 64)) = ji15 := hji15
         have hji15z : (ji13) ≤ 64 → (IntKind.i64.wrap (1 * 2 ^ (ji13).toNat)) = ji15 := shl_small hji15
         have hji15u : (IntKind.i64.wrap (2 ^ min (ji13).toNat 64)) = ji15 := by have h_ := hji15_; rw [Int.one_mul] at h_; exact h_
         have hji15v : (ji13) ≤ 64 → (IntKind.i64.wrap (2 ^ (ji13).toNat)) = ji15 := fun hle_ => by have h_ := hji15z hle_; rw [Int.one_mul] at h_; exact h_
         have hji15y : (wrap64 (1 * 2 ^ min (ji13).toNat 64)) = ji15 := (i64_w _).symm.trans hji15_
         have hji15x : (ji13) ≤ 64 → (wrap64 (1 * 2 ^ (ji13).toNat)) = ji15 := fun h_ => (i64_w _).symm.trans (hji15z h_)
         have H' := Aside0.mk H
         clear H
         go_wp2
         go_roundg kj5
         case measure => have := HK1.out; have := HJ5.out; omega
         case rel => exact ⟨(Go.bits .or .i64 x1_1 (ji15)), (wrap64 (x7_1 + 1)), (by first | rfl | (simp; done) | (simp only [← hji15] <;> (first | rfl | simp)) | (simp [*]; done)), (by first | rfl | (simp; done) | (simp [*]; done) | (simp [wrap64]; done)), H', ⟨by have := HK1.out; have := HJ5.out; omega⟩, by repeat (first | exact Drawn0.refl _ | apply Drawn0.step)⟩
        ·rw [if_neg c14] at H
         exact absurd H (by simp)
       ·rw [if_neg c12] at H
        obtain rfl : bq = false := Bool.eq_false_iff.mpr c12
        have H' := Aside0.mk H
        clear H
        go_wp2
        go_roundg kj5
        case measure => have := HK1.out; have := HJ5.out; omega
        case rel => exact ⟨(x1_1), (wrap64 (x7_1 + 1)), (by first | rfl | (simp; done) | (simp [*]; done) | (simp [wrap64]; done)), (by first | rfl | (simp; done) | (simp [*]; done) | (simp [wrap64]; done)), H', ⟨by have := HK1.out; have := HJ5.out; omega⟩, by repeat (first | exact Drawn0.refl _ | apply Drawn0.step)⟩
   ·rw [if_neg c4] at H
    have c4b0 : decide (x7_1 < a0) = false := decide_eq_false c4
    clear c4
    obtain rfl := Option.some.inj H
    simp only [Option.some.injEq, Prod.mk.injEq] at H
    obtain ⟨rfl⟩ := H
    go_wp2
    go_ret
    exact ⟨by first | rfl | (simp; done) | (simp [*]; done) | (simp [wrap64]; done), by repeat (first | exact Drawn0.refl _ | apply Drawn0.step)⟩
end Go.Proofs.YtnjdkhnepmmfgaaDoor.PB1
namespace Go.Proofs.YtnjdkhnepmmfgaaDoor.PB1
open Go.RowKit Go.Proofs.YtnjdkhnepmmfgaaDoorW.PrintWords Go.Proofs.YtnjdkhnepmmfgaaDoorW.PrintLast Go.Proofs.YtnjdkhnepmmfgaaDoorW.PrintMore
attribute [local go_sem] max2_int min2_int max_two min_two max_three min_three max_four min_four   -- for this text's walks alone
set_option linter.unusedVariables false
set_option linter.unusedSimpArgs false
end Go.Proofs.YtnjdkhnepmmfgaaDoor.PB1
namespace Go.Proofs.YtnjdkhnepmmfgaaDoor.Tf
set_option linter.unusedVariables false
set_option linter.unusedSimpArgs false
open Go.RowKit Go.Proofs.YtnjdkhnepmmfgaaDoorW.PrintWords Go.Proofs.YtnjdkhnepmmfgaaDoorW.PrintLast Go.Proofs.YtnjdkhnepmmfgaaDoorW.PrintMore Tdy Td Mg Rg Ti Go.Proofs.YtnjdkhnepmmfgaaDoor.Pure PB1
def wdOf (t : Nat) : Nat := 3 ^ t - 1
def digs : Nat → Nat → List Nat
 | 0, _ => []
 | t + 1, c => c % 3 :: digs t (c / 3)
def padT (t : Nat) : Nat → Nat := padOf (digs t)
theorem digs_len : ∀ (t c : Nat), (digs t c).length = t
 | 0, _ => rfl
 | t + 1, c => by rw [digs, List.length_cons, digs_len t]
theorem digs_lt : ∀ (t c : Nat), ∀ d ∈ digs t c, d < 3
 | 0, _, d, h => by cases h
 | t + 1, c, d, h => by
  rcases List.mem_cons.1 h with rfl | h
  ·exact Nat.mod_lt _ (by decide)
  ·exact digs_lt t _ d h
theorem fin_wide : ∀ t : Nat, t < 4 → impl_widthOf.f 10 (t : Int) = some ((wdOf t : Nat) : Int) ∧ spec_l01Wide.f 10 (t : Int) = some ((wdOf t : Nat) : Int) := by decide +kernel
theorem fin_digs : ∀ t : Nat, t < 4 → ∀ c : Nat, c < 26 → impl_digitsOf.f 10 (t : Int) (c : Int) = some (ints (digs t c)) := by decide +kernel
theorem fin_pad : ∀ t, t < 4 → ∀ c, c < 26 → padT t c < 2 ^ t := by decide +kernel
theorem wd_le : ∀ t, t < 4 → wdOf t ≤ 26 := by decide
theorem wd_pos : ∀ t, t < 4 → 0 < t → 0 < wdOf t := by decide
def enI' (o : Option Nat) : Int := match o with
 | none => -1
 | some e' => (e' : Int)
def endB (t e c : Nat) : Bool := decide (spec_l01Ended.f 60 (t : Int) (e : Int) (c : Int) = some (enI' (enC (padT t) e c)))
theorem fin_end : ((List.range 4).all fun t => (List.range (2 ^ t)).all fun e => (List.range (wdOf t)).all fun c => endB t e c) = true := by decide +kernel
theorem fin_ended (t : Nat) (ht : t < 4) (e : Nat) (he : e < 2 ^ t) (c : Nat) (hc : c < wdOf t) : spec_l01Ended.f 60 (t : Int) (e : Int) (c : Int) = some (enI' (enC (padT t) e c)) := by
 have h1 := List.all_eq_true.1 fin_end t (List.mem_range.2 ht)
 have h2 := List.all_eq_true.1 h1 e (List.mem_range.2 he)
 exact of_decide_eq_true (List.all_eq_true.1 h2 c (List.mem_range.2 hc))
/-! ### classes -/
end Go.Proofs.YtnjdkhnepmmfgaaDoor.Tf
namespace Go.Proofs.YtnjdkhnepmmfgaaDoor.Tw
set_option linter.unusedVariables false
set_option linter.unusedSimpArgs false
open Go.RowKit Go.Proofs.YtnjdkhnepmmfgaaDoorW.PrintWords Go.Proofs.YtnjdkhnepmmfgaaDoorW.PrintLast Go.Proofs.YtnjdkhnepmmfgaaDoorW.PrintMore Mp Kp Mg Tdy Rg
set_option maxHeartbeats 8000000 in
set_option maxRecDepth 100000 in
theorem tidied (tapes start : Int) (accs0 : List Bool) (rows0 : List (List Int)) (wd : Nat) (hwd1 : 0 < wd) (hwd2 : wd ≤ 30)
  (w : World) (gp : Nat) (AA : Option Addr) (ca : Nat) (AN : Option Addr) (cn : Nat) (hP : w.heap[gp]? = some (.cells #[.int .i64 tapes, .int .i64 start, .slice AA accs0.length ca, .slice AN rows0.length cn] 27 (0, 0)))
  (PP : List Bool → List (List Nat) → Prop)
  (hright : ∀ W, Below w.heap.size w W → Calls Tryd.prog 79 #[.pointer (some ⟨gp, 0, none⟩)] W fun e W' => ∃ (accs : List Bool) (rows : List (List Nat)), PP accs rows ∧ ∃ (vA vN : Value), e = .returned (.agg #[.int .i64 tapes, .int .i64 0, vA, vN]) ∧
   Kd.R Kd.bool 4 W' W.heap.size (fun _ => True) vA accs ∧ Kd.R (Kd.slice 2 (Kd.int .i64)) 75 W' W.heap.size (fun _ => True) vN (rows.map ints) ∧ Below W.heap.size W W')
  (hfin0 : ∀ (accs : List Bool) (rows : List (List Nat)), PP accs rows → ∀ (W : World) (gx : Nat) (A2 : Option Addr) (c2 : Nat) (A3 : Option Addr) (c3 : Nat) (A1 : Option Addr) (c1 : Nat) (g : List Nat), W.heap[gx]? = some (.cells #[.int .i64 tapes, .int .i64 0, .slice A2 accs.length c2, .slice A3 rows.length c3] 27 (0, 0)) → Kd.C Kd.bool W A2 accs.length accs → accs.length ≤ c2 → Kd.C (Kd.slice 2 (Kd.int .i64)) W A3 rows.length (rows.map ints) → rows.length ≤ c3 → Kd.C (Kd.int .i64) W A1 g.length (ints g) → g.length ≤ c1 → g.length = rows.length →
   Calls Tryd.prog 80 #[.pointer (some ⟨gx, 0, none⟩), .slice A1 g.length c1] W fun e W' => ∃ v0 : Value, e = .returned (.tuple #[v0, .int .i64 ((number (keys rows g) []).2.length : Int)]) ∧ (Kd.int .i64).R 2 W' W.heap.size (fun _ => True) v0 (ints (number (keys rows g) []).1) ∧ Below W.heap.size W W')
  (bs : List Bool) (rws : List (List Nat))
  (hPf : ∀ (accs : List Bool) (rows : List (List Nat)), PP accs rows → Closed wd rows accs ∧ rows.length ≤ 1000000 ∧ 0 < rows.length ∧ ∃ f1 g f2 m, classes rows f1 (first accs) 0 = some g ∧ byState wd rows g 0 f2 = some (some (m, rws)) ∧ m.map (fun q => accs.getD q false) = bs) :
  Calls Tryd.prog 39 #[.pointer (some ⟨gp, 0, none⟩)] w fun e w' => ∃ (vA vN : Value), e = .returned (.agg #[.int .i64 tapes, .int .i64 0, vA, vN]) ∧
   Kd.R Kd.bool 4 w' w.heap.size (fun _ => True) vA bs ∧ Kd.S (Kd.slice 2 (Kd.int .i64)) 75 w' w.heap.size (fun _ => True) vN (rws.map ints) ∧ Below w.heap.size w w' := by
 have hgp := blk_lt hP
 go_enter Tryd.func39, Tryd.ntmps39
 go_wp2_with (first
  | (go_at_call 79; go_loud (with_reducible refine (hright _ (below_alloc (Below.refl _ _) _)).mono ?_; rintro e w1 ⟨accs, rows, hPP, vA, vN, rfl, r1, r2, hb1⟩; obtain ⟨hcl, hn, hn0, f1, g, f2, m, hc0, hb0, hbs0⟩ := hPf _ _ hPP; have hlen := Aside0.mk hcl.len; have hcls := Aside0.mk hc0; have hnA : accs.length ≤ 1000000 := (by rw [← hcl.len]; exact hn); have hb2 := Aside0.mk hb0; have hbss := Aside0.mk hbs0; clear hc0 hb0 hbs0; have hfin := hfin0 accs rows hPP; clear hfin0 hPf hPP; obtain ⟨A1, c1, rfl, hc1, hC1⟩ := Kd.R_reads r1; obtain ⟨A2, c2, rfl, hc2, hC2⟩ := Kd.R_reads r2; simp only [List.length_map] at hc2 hC2))
  | ((with_reducible refine gate_dst (N := 22) rfl ?_); go_loud (
    have bR1 := blk_below (blk_new w (.cells #[.int .i64 0, .int .i64 0, .slice none 0 0, .slice none 0 0] 27)) hb1
    have bP1 := blk_below (blk_alloc hP (.cells #[.int .i64 0, .int .i64 0, .slice none 0 0, .slice none 0 0] 27)) hb1
    have hB1 := below_step (below_alloc (Below.refl w.heap.size w) (.cells #[.int .i64 0, .int .i64 0, .slice none 0 0, .slice none 0 0] 27)) hb1
    obtain ⟨wA, hWA⟩ : ∃ wA : World, wA = w1.alloc (.cells #[.int .i64 tapes, .int .i64 0, .slice A1 accs.length c1, .slice A2 rows.length c2] 27) := ⟨_, rfl⟩
    have fX : wA.heap[w1.heap.size]? = some (.cells #[.int .i64 tapes, .int .i64 0, .slice A1 accs.length c1, .slice A2 rows.length c2] 27 (0, 0)) := by rw [hWA]; exact blk_new _ _
    have fR : wA.heap[w.heap.size]? = some (.cells #[.int .i64 0, .int .i64 0, .slice none 0 0, .slice none 0 0] 27 (0, 0)) := by rw [hWA]; exact blk_alloc bR1 _
    have fP : wA.heap[gp]? = some (.cells #[.int .i64 tapes, .int .i64 start, .slice AA accs0.length ca, .slice AN rows0.length cn] 27 (0, 0)) := by rw [hWA]; exact blk_alloc bP1 _
    have cA : Kd.C Kd.bool wA A1 accs.length accs := by rw [hWA]; exact Kd.C_below hC1 (below_alloc (Below.refl _ _) _)
    have cN : Kd.C (Kd.slice 2 (Kd.int .i64)) wA A2 rows.length (rows.map ints) := by rw [hWA]; exact Kd.C_below hC2 (below_alloc (Below.refl _ _) _)
    have bA : Below w.heap.size w wA := by rw [hWA]; exact below_alloc hB1 _
    rw [← hWA]
    generalize w1.heap.size = gX at *
    clear hWA bR1 bP1 hB1 hC1 hC2 r1 r2 hb1
    refine Kd.R_make (Kd.int .i64) (w0 := wA) wA.heap.size 2 rfl (N := 22) rfl 75 _ _ rfl (accs.length : Int) rfl rfl Tryd.underlying75 (.int .i64 0) 8 info_long rfl (by decide) (by decide) (0 : Int) (ok := fun _ => True) (okp := fun _ => False) rfl (fun _ h => h.elim) trivial (by omega) (by have := hlen.out; simp; omega) (Below.refl _ _) (Nat.le_refl _) ?_
    intro v2 w2 hR2 hb2 hg2 hn2
    simp only [Int.toNat_natCast] at hR2
    obtain ⟨gC, cC, hv2, hgC, _, _⟩ := Kd.R_form hR2 (by have := hlen.out; simp; omega)
    subst hv2
    rw [List.length_replicate] at hR2)))
 have hz0 : grpTo accs 0 = List.replicate accs.length 0 := grpTo_zero accs
 have hS2 : SR w2 wA.heap.size (.slice (some ⟨gC, 0, none⟩) accs.length cC) (ints (grpTo accs 0)) := by rw [hz0, ints_replicate]; exact hR2
 clear hz0 hR2 hg2 hn2
 go_loopg [5] accs.length (fun kq v5 wr => ∃ i : Nat, v5 = .int .i64 (i : Int) ∧ Aside0 (kq = accs.length - i) ∧ i ≤ accs.length ∧ Aside0 (Below wA.heap.size wA wr) ∧ Aside0 (SR wr wA.heap.size (.slice (some ⟨gC, 0, none⟩) accs.length cC) (ints (grpTo accs i))))
 case atStart => exact ⟨0, rfl, ⟨by simp⟩, Nat.zero_le _, ⟨hb2⟩, ⟨hS2⟩⟩
 case round =>
  clear hb2 hS2
  obtain ⟨i, rfl, hkq, hil, hb, hS⟩ := hrel
  replace hb := hb.out
  replace hS := hS.out
  have e2 : wr.cell? ⟨gX, 2, none⟩ = some (.slice A1 accs.length c1) := (blk_cell (blk_below fX hb) 2).trans rfl
  by_cases hlt : i < accs.length
  ·have hlt1 : ((i : Int) < (accs.length : Int)) = True := eq_true (by omega)
   have h0i : (0 ≤ (i : Int)) = True := eq_true (by omega)
   obtain ⟨ad, rfl, k1⟩ := at_mark (Kd.C_below cA hb) i hlt
   have hl : (ints (grpTo accs i)).length = accs.length := by rw [ints_length, grpTo_length accs hil]
   obtain ⟨hbT, cells, hcT⟩ := row_blk hS (by rw [hl]; omega)
   have f1 : wr.frozen? ⟨gC, i, none⟩ = false := blk_frozen hcT i
   have k2 := sr_at hS (i := i) (by rw [hl]; exact hlt)
   have hs := grpTo_step accs hlt
   cases hm : accs[i] with
   | false =>
    rw [hm, if_neg (by simp)] at hs
    rw [hm] at k1
    have hS2 : SR wr wA.heap.size (.slice (some ⟨gC, 0, none⟩) accs.length cC) (ints (grpTo accs (i + 1))) := by rw [hs]; exact hS
    clear hs hm hl hcT k2 f1
    go_wp2_with fail
    go_roundg (accs.length - (i + 1))
    case measure => have := hkq.out; omega
    case rel => exact ⟨i + 1, (by go_num), ⟨by simp⟩, by omega, ⟨hb⟩, ⟨hS2⟩⟩
   | true =>
    rw [hm, if_pos rfl] at hs
    rw [hm] at k1
    have hS2 : SR (wr.setCell ⟨gC, i, none⟩ (.int .i64 1)) wA.heap.size (.slice (some ⟨gC, 0, none⟩) accs.length cC) (ints (grpTo accs (i + 1))) := by
     rw [hs, ← ints_set]
     exact Kd.R_putn hS (i : Int) 1
    have hb3 := hb.setCell (p := ⟨gC, i, none⟩) hbT (.int .i64 1)
    generalize (ints (grpTo accs i))[i]'(by rw [hl]; exact hlt) = oi at *
    clear hs hm hl hcT hS hb
    go_wp2_with fail
    go_roundg (accs.length - (i + 1))
    case measure => have := hkq.out; omega
    case rel => exact ⟨i + 1, (by go_num), ⟨by simp⟩, by omega, ⟨hb3⟩, ⟨hS2⟩⟩
  ·have hii : i = accs.length := by omega
   subst i
   have hlt1 : ((accs.length : Int) < (accs.length : Int)) = False := eq_false (by omega)
   rw [grpTo_all] at hS
   go_wp2_with fail
   clear e2
   go_loopg [4, 6] f1 (fun kq v4 v6 wr => ∃ (g' : List Nat) (n' : Nat) (A4 : Option Addr) (c4 : Nat), v4 = .slice A4 g'.length c4 ∧ v6 = .int .i64 (n' : Int) ∧ Aside0 (classes rows kq g' n' = some g) ∧ Aside0 (g'.length = rows.length) ∧ Aside0 (Below wA.heap.size wA wr) ∧ Aside0 (SR wr wA.heap.size (.slice A4 g'.length c4) (ints g')))
   case atStart => exact ⟨first accs, 0, some ⟨gC, 0, none⟩, cC, congrArg (fun n => Value.slice (some ⟨gC, 0, none⟩) n cC) (first_len accs).symm, rfl, hcls, ⟨by rw [first_len]; exact hlen.out.symm⟩, ⟨hb⟩, ⟨by rw [first_len]; exact hS⟩⟩
   case round =>
    clear hb hS hkq hlt
    obtain ⟨g', n', A4, c4, rfl, rfl, hcl2, hgl, hb, hS⟩ := hrel
    replace hb := hb.out
    replace hS := hS.out
    obtain ⟨hq1, hq2, hCg⟩ := Kd.R_reads' hS
    cases gk with
    | zero => exact absurd hcl2.out (by simp [classes])
    | succ kf =>
    have hst := hcl2.out
    unfold classes at hst
    have hnu := (number_spec (keys rows g') [] List.Pairwise.nil).len
    have hon := (number_spec (keys rows g') [] List.Pairwise.nil).onto
    have hlk : (keys rows g').length = rows.length := by simp [keys]
    obtain ⟨out, hout⟩ : ∃ out, (number (keys rows g') []).1 = out := ⟨_, rfl⟩
    obtain ⟨L, hL⟩ : ∃ L, (number (keys rows g') []).2.length = L := ⟨_, rfl⟩
    have hF := fun W gx A2 c2 A3 c3 A1 c1 => hfin W gx A2 c2 A3 c3 A1 c1 g'
    rw [hout, hlk] at hnu
    rw [hL, hout, hlk] at hon
    rw [hL, hout] at hst
    rw [hL, hout] at hF
    have hst2 := Aside0.mk hst
    have hnu2 := Aside0.mk hnu
    have hon2 := Aside0.mk hon
    clear hst hnu hout hL hlk hcl2 hq1 hon
    have hF2 := Aside0.mk hF
    clear hF
    by_cases hLn : L = n'
    ·subst hLn
     have hog : out = g := by
      have h := hst2.out
      rw [if_pos rfl] at h
      exact Option.some.inj h
     clear hst2
     subst out
     have hL1 : L ≤ 1000000 := Nat.le_trans hon2.out.le_n hn
     have hL0 : 0 < L := Nat.lt_of_le_of_lt (Nat.zero_le _) (hon2.out.lt 0 hn0)
     go_wp2_with (first
      | (go_at_call 80; go_loud (with_reducible refine (hF2.out _ gX A1 c1 A2 c2 A4 c4 (blk_below fX hb) (Kd.C_below cA hb) hc1 (Kd.C_below cN hb) hc2 (by rw [ints_length] at hCg; exact hCg) hq2 hgl.out).mono ?_; rintro e w3 ⟨v0, rfl, r3, hb3⟩; obtain ⟨A5, c5, hv⟩ := Kd.R_slice r3; rw [ints_length] at hv; subst hv))
      | ((with_reducible refine gate_dst (N := 49) rfl ?_); go_loud (
        have hb5 := below_step hb hb3
        obtain ⟨hq9, hq3, cG⟩ := Kd.R_reads' r3
        clear hq9
        rw [ints_length] at cG
        have fX3 := blk_below fX hb5
        have fR3 := blk_below fR hb5
        have fP3 := blk_below fP hb5
        have cA3 := Kd.C_below cA hb5
        have cN3 := Kd.C_below cN hb5
        have bW := below_step bA hb5
        clear hF2 hCg hS hb hb3 hb5 r3 fX fR fP cA cN bA hfin hright hq2
        refine Kd.R_make (Kd.int .i64) (w0 := w3) w3.heap.size 2 rfl (N := 49) rfl 75 _ _ rfl (L : Int) rfl rfl Tryd.underlying75 (.int .i64 0) 8 info_long rfl (by decide) (by decide) (0 : Int) (ok := fun _ => True) (okp := fun _ => False) rfl (fun _ h => h.elim) trivial (by omega) (by simp; omega) (Below.refl _ _) (Nat.le_refl _) ?_
        intro v2 w4 hR4 hb4 hg4 hn4
        simp only [Int.toNat_natCast] at hR4
        obtain ⟨gT, cT, hv2, hgT, _, _⟩ := Kd.R_form hR4 (by simp; omega)
        subst hv2
        rw [List.length_replicate] at hR4)))
     clear hg4 hn4
     go_loopg [10] L (fun kq v10 wq => ∃ k : Nat, v10 = .int .i64 (k : Int) ∧ Aside0 (kq = L - k) ∧ k ≤ L ∧ Aside0 (Below w3.heap.size w3 wq) ∧ Aside0 (SR wq w3.heap.size (.slice (some ⟨gT, 0, none⟩) L cT) (List.replicate k (-1) ++ List.replicate (L - k) 0)))
     case atStart => exact ⟨0, rfl, ⟨by simp⟩, Nat.zero_le _, ⟨hb4⟩, ⟨by simpa using hR4⟩⟩
     case round =>
      clear hb4 hR4
      obtain ⟨k, rfl, hkq, hkl, hb4, hR⟩ := hrel
      replace hb4 := hb4.out
      replace hR := hR.out
      by_cases hlt2 : k < L
      ·have hl : (List.replicate k (-1 : Int) ++ List.replicate (L - k) 0).length = L := by simp; omega
       obtain ⟨hbT, cells, hcT⟩ := row_blk hR (by rw [hl]; omega)
       have k1 := sr_at hR (i := k) (by rw [hl]; exact hlt2)
       have f1 : wr.frozen? ⟨gT, k, none⟩ = false := blk_frozen hcT k
       have hR2 : SR (wr.setCell ⟨gT, k, none⟩ (.int .i64 (-1))) w3.heap.size (.slice (some ⟨gT, 0, none⟩) L cT) ((List.replicate k (-1 : Int) ++ List.replicate (L - k) 0).set k (-1)) := Kd.R_putn hR (k : Int) (-1)
       have hb6 := hb4.setCell (p := ⟨gT, k, none⟩) hbT (.int .i64 (-1))
       rw [fill_step L k hlt2] at hR2
       generalize (List.replicate k (-1 : Int) ++ List.replicate (L - k) 0)[k]'(by rw [hl]; exact hlt2) = oi at *
       clear hl hcT cells hR hb4
       have hlt3 : ((k : Int) < (L : Int)) = True := eq_true (by omega)
       have h0k : (0 ≤ (k : Int)) = True := eq_true (by omega)
       go_wp2_with fail
       go_roundg (L - (k + 1))
       case measure => have := hkq.out; omega
       case rel => exact ⟨k + 1, (by go_num), ⟨by simp⟩, by omega, ⟨hb6⟩, ⟨hR2⟩⟩
      ·have hkk : k = L := by omega
       subst k
       have hlt3 : ((L : Int) < (L : Int)) = False := eq_false (by omega)
       have hl0 : List.replicate L (-1 : Int) ++ List.replicate (L - L) 0 = List.replicate L (-1) := by simp
       rw [hl0] at hR
       clear hl0
       have hgl1 : 0 < g.length := by rw [hnu2.out]; exact hn0
       obtain ⟨q0, hq0⟩ : ∃ q0 : Nat, g.getD 0 0 = q0 := ⟨_, rfl⟩
       have hq0L : q0 < L := by rw [← hq0]; exact hon2.out.lt 0 hn0
       have hq0g : g[0] = q0 := by rw [← hq0]; simp [List.getD_eq_getElem?_getD, hgl1]
       have hA4 := below_alloc hb4 (.cells #[.int .i64 0] 2)
       have d1 : wr.cell? ⟨gX, 1, none⟩ = some (.int .i64 0) := (blk_cell (blk_below fX3 hb4) 1).trans rfl
       have d3 : (wr.alloc (.cells #[.int .i64 0] 2)).cell? ⟨gX, 1, none⟩ = some (.int .i64 0) := (blk_cell (blk_below fX3 hA4) 1).trans rfl
       obtain ⟨a5, rfl, kg⟩ := at_num (Kd.C_below cG hA4) 0 (by rw [ints_length]; exact hgl1)
       rw [ints_get g 0 _ hgl1, hq0g] at kg
       have kg2 : (wr.alloc (.cells #[.int .i64 0] 2)).cell? a5 = some (.int .i64 (q0 : Int)) := by
        have e : a5.add 0 = a5 := by simp [Addr.add]
        rw [e] at kg
        exact kg
       have hR4 := Kd.R_below hR (below_alloc (Below.refl _ _) (.cells #[.int .i64 0] 2))
       have k1 := sr_at hR4 (i := q0) (by rw [List.length_replicate]; exact hq0L)
       obtain ⟨hbT, cells, hcT⟩ := row_blk hR4 (by rw [List.length_replicate]; omega)
       have f1 : (wr.alloc (.cells #[.int .i64 0] 2)).frozen? ⟨gT, q0, none⟩ = false := blk_frozen hcT q0
       have hgT1 := Kd.R_lt hR gT rfl
       have hb6 := hb4.setCell (p := ⟨gT, q0, none⟩) hbT (.int .i64 0)
       have hb7 := below_alloc hb6 (.cells #[.int .i64 0] 2)
       have hR6 : SR (wr.setCell ⟨gT, q0, none⟩ (.int .i64 0)) w3.heap.size (.slice (some ⟨gT, 0, none⟩) L cT) ((List.replicate L (-1 : Int)).set q0 0) := Kd.R_putn hR (q0 : Int) 0
       have hR7 := Kd.R_below hR6 (below_alloc (Below.refl _ _) (.cells #[.int .i64 0] 2))
       have hszw : (wr.setCell ⟨gT, q0, none⟩ (.int .i64 0)).heap.size = wr.heap.size := by simp [World.setCell]
       have hL6 : SR ((wr.setCell ⟨gT, q0, none⟩ (.int .i64 0)).alloc (.cells #[.int .i64 0] 2)) w3.heap.size (.slice (some ⟨wr.heap.size, 0, none⟩) 1 1) (ints [0]) := by
        rw [← hszw]
        exact R_one (Kd.int .i64) 2 _ _ (by rw [hszw]; exact Below.size hb4) (ok := fun _ => True) (okp := fun _ => False) (cs := [.int .i64 0]) rfl (fun _ h => h.elim) trivial
       have d4 : ((wr.setCell ⟨gT, q0, none⟩ (.int .i64 0)).alloc (.cells #[.int .i64 0] 2)).cell? ⟨gp, 0, none⟩ = some (.int .i64 tapes) := (blk_cell (blk_below fP3 hb7) 0).trans rfl
       clear hszw hR6 hb6
       have hlt4 : ((q0 : Int) < (L : Int)) = True := eq_true (by omega)
       have h0q : (0 ≤ (q0 : Int)) = True := eq_true (by omega)
       have hgl2 : (0 < g.length) = True := eq_true hgl1
       have hgl3 : ((0 : Int) < (g.length : Int)) = True := eq_true (by omega)
       have hq2 := Aside0.mk hq0
       have hTab := Aside0.mk (tab_start hq0L)
       clear hq0 hq0g hcT cells
       go_wp2_with fail
       clear d1 d3 d4 kg kg2 k1 f1 hR4 hA4 hb4 hR hlt4 h0q hgl2 hgl3
       generalize hWW : (wr.setCell ⟨gT, q0, none⟩ (.int .i64 0)).alloc (.cells #[.int .i64 0] 2) = wx at *
       have hwx : wx.heap.size = wr.heap.size + 1 := by rw [← hWW]; simp [World.setCell]
       have hsl : w3.heap.size ≤ wr.heap.size := by have := Below.size hb7; have := hbT; omega
       generalize hgg : wr.heap.size + 1 = gV at *
       have h5 : Tt w3 tapes gV gT L cT ((List.replicate L (-1 : Int)).set q0 0) (.slice (some ⟨wr.heap.size, 0, none⟩) 1 1) [0] (.slice none 0 0) [] (.slice none 0 0) [] (.slice none 0 0) [] (wx.alloc (.cells #[.int .i64 tapes, .int .i64 0, .slice none 0 0, .slice none 0 0] 27)) :=
        ⟨blk_at _ _ _ hwx.symm, Kd.R_below hR7 (below_alloc (Below.refl _ _) _), Kd.R_below hL6 (below_alloc (Below.refl _ _) _), Kd.R_nil _ _ _ _ _, Kd.R_nil _ _ _ _ _, Kd.S_nil _ _ _ _ _, (fun e => by have : gT = wr.heap.size := Option.some.inj e; omega), (fun e => by cases e), (fun k _ e => by cases e), by omega, below_alloc hb7 _⟩
       have hTab2 : Aside0 (Tab L ([0].map (kyF g)) ((List.replicate L (-1 : Int)).set q0 0)) := ⟨by have h := hTab.out; rw [← hq2.out] at h ⊢; exact h⟩
       have hbs : Aside0 (bfs (kyF g) (nxF rows) (List.range wd) 0 f2 0 [0] [] = some (some (m, rws))) := ⟨hb2.out⟩
       clear hTab hR7 hL6 hb7 hWW hwx hsl hgg hgT1 hkq hb2
       go_loopg [11, 13] f2 (fun kf v11 v13 wr => ∃ (i : Nat) (li : List Nat) (rw_ : List (List Nat)) (tab : List Int) (AL : Option Addr) (cL : Nat) (vA vN : Value), v11 = .slice AL li.length cL ∧ v13 = .int .i64 (i : Int) ∧ Aside0 (bfs (kyF g) (nxF rows) (List.range wd) 0 kf i li rw_ = some (some (m, rws))) ∧ Aside0 (rw_.length = i) ∧ i ≤ li.length ∧ Aside0 (∀ q ∈ li, q < rows.length) ∧ Aside0 (Tab L (li.map (kyF g)) tab) ∧
        Aside0 (Tt w3 tapes gV gT L cT tab (.slice AL li.length cL) li (.slice none 0 0) [] vA ((li.take i).map (acF accs)) vN rw_ wr))
       case atStart => exact ⟨0, [0], [], _, _, _, _, _, rfl, rfl, hbs, ⟨rfl⟩, Nat.zero_le _, ⟨fun q hq => by rw [List.mem_singleton.1 hq]; exact hn0⟩, hTab2, ⟨h5⟩⟩
       case round =>
        clear h5 hTab2 hbs
        obtain ⟨wo, rfl⟩ : ∃ wo : World, wo = wr := ⟨_, rfl⟩
        obtain ⟨i, li, rw_, tab, AL, cL, vA, vN, rfl, rfl, H, hrl, hil, hQl, hTab, h⟩ := hrel
        replace h := h.out
        have hliL := tab_le hTab.out
        by_cases hlt : i < li.length
        ·cases gk with
         | zero => exact absurd H.out (by simp [bfs])
         | succ kf =>
         have H1 := H.out
         unfold bfs at H1
         rw [dif_pos hlt, if_neg (by omega)] at H1
         have HH := Aside0.mk H1
         clear H1 H
         have hkr : li[i] < rows.length := hQl.out _ (List.getElem_mem hlt)
         have hki := Aside0.mk (List.getElem?_eq_getElem hlt)
         have hgT2 := Kd.R_lt h.tab gT rfl
         have h0 := h.begin hgT2
         generalize hk : li[i] = k at *
         have HK := Aside0.mk hk
         clear hk
         have hlt1 : ((i : Int) < (li.length : Int)) = True := eq_true (by omega)
         have h0i : (0 ≤ (i : Int)) = True := eq_true (by omega)
         go_wp2_with fail
         clear h
         go_loopg [11, 14, 15] wd (fun kq v11 v14 v15 wq => ∃ (c : Nat) (lj r : List Nat) (tab2 : List Int) (A' : Option Addr) (c' : Nat) (Ar : Option Addr) (cr : Nat), v11 = .slice A' lj.length c' ∧ v14 = .slice Ar r.length cr ∧ v15 = .int .i64 (c : Int) ∧ c ≤ wd ∧ Aside0 (kq = wd - c) ∧ Aside0 (r.length = c) ∧ Aside0 ((row (kyF g) (nxF rows) k ((List.range wd).drop c) lj).1 = (row (kyF g) (nxF rows) k (List.range wd) li).1 ∧ r ++ (row (kyF g) (nxF rows) k ((List.range wd).drop c) lj).2 = (row (kyF g) (nxF rows) k (List.range wd) li).2) ∧ Aside0 (∀ q ∈ lj, q < rows.length) ∧ Aside0 (lj[i]? = some k) ∧ Aside0 (Tab L (lj.map (kyF g)) tab2) ∧
          Aside0 (Tt w3 tapes gV gT L cT tab2 (.slice A' lj.length c') lj (.slice Ar r.length cr) r vA ((li.take i).map (acF accs)) vN rw_ wq))
         case atStart => exact ⟨0, li, [], _, _, _, _, _, rfl, rfl, rfl, Nat.zero_le _, ⟨by simp⟩, ⟨rfl⟩, ⟨by simp⟩, ⟨hQl.out⟩, hki, hTab, ⟨h0⟩⟩
         case round =>
          clear h0
          obtain ⟨c, lj, r, tab2, A', c', Ar, cr, rfl, rfl, rfl, hcw, hkq, hrc, HR, hQj, hji, hTj, hq⟩ := hrel
          replace hq := hq.out
          have hjl := tab_le hTj.out
          have hij : i < lj.length := (List.getElem?_eq_some_iff.1 hji.out).1
          obtain ⟨a7, rfl, e7⟩ := sr_at' hq.lst (i := i) (by rw [ints_length]; exact hij)
          rw [ints_get lj i _ hij, (List.getElem?_eq_some_iff.1 hji.out).2] at e7
          have e3 : wr.cell? ⟨gX, 3, none⟩ = some (.slice A2 rows.length c2) := (blk_cell (blk_below fX3 hq.bel) 3).trans rfl
          obtain ⟨a2, rfl, A9, c9, e9, hl9, hC9⟩ := at_row (Kd.C_below cN3 hq.bel) k (by rw [List.length_map]; exact hkr)
          rw [List.getElem_map, ints_length, hcl.wide _ (List.getElem_mem hkr)] at e9 hl9 hC9
          have hlt4 : ((i : Int) < (lj.length : Int)) = True := eq_true (by omega)
          have hkr2 : ((k : Int) < (rows.length : Int)) = True := eq_true (by omega)
          have h0k : (0 ≤ (k : Int)) = True := eq_true (by omega)
          by_cases hc : c < wd
          ·have hd : (List.range wd).drop c = c :: (List.range wd).drop (c + 1) := by
            rw [List.drop_eq_getElem_cons (by simpa using hc)]; simp
           have HR1 := HR.out
           rw [hd] at HR1
           clear HR hd
           have hcr : c < rows[k].length := by rw [hcl.wide _ (List.getElem_mem hkr)]; exact hc
           obtain ⟨ad9, rfl, et⟩ := at_num hC9 c (by rw [ints_length]; exact hcr)
           rw [ints_get _ c _ hcr, ← nxF_get hkr hcr] at et
           have htr : nxF rows k c < rows.length := hcl.step hkr hc
           have hgt : nxF rows k c < g.length := by rw [hnu2.out]; exact htr
           obtain ⟨a5', e5', eg⟩ := at_num (Kd.C_below cG hq.bel) (nxF rows k c) (by rw [ints_length]; exact hgt)
           cases e5'
           rw [ints_get _ _ _ hgt, ← kyF_get hgt] at eg
           have hkL : kyF g (nxF rows k c) < L := hon2.out.lt _ htr
           have hfd := tab_find hTj.out hkL
           have hl2 : kyF g (nxF rows k c) < tab2.length := by rw [hTj.out.len]; exact hkL
           have etab := sr_at hq.tab hl2
           obtain ⟨hbT2, cells, hcT⟩ := row_blk hq.tab (by omega)
           have fT : wr.frozen? ⟨gT, kyF g (nxF rows k c), none⟩ = false := blk_frozen hcT _
           have hlt2 : ((c : Int) < (wd : Int)) = True := eq_true (by omega)
           have h0c : (0 ≤ (c : Int)) = True := eq_true (by omega)
           have htg : ((nxF rows k c : Int) < (g.length : Int)) = True := eq_true (by omega)
           have h0t : (0 ≤ (nxF rows k c : Int)) = True := eq_true (by omega)
           have hkL1 : ((kyF g (nxF rows k c) : Int) < (L : Int)) = True := eq_true (by omega)
           have h0L : (0 ≤ (kyF g (nxF rows k c) : Int)) = True := eq_true (by omega)
           clear hcT cells
           have hgk : Aside0 (∀ W, Below w3.heap.size w3 W → W.cell? (a5.add (nxF rows k c)) = some (.int .i64 (kyF g (nxF rows k c) : Int))) := ⟨fun W hW => by
            obtain ⟨a6, e6, k6⟩ := at_num (Kd.C_below cG hW) (nxF rows k c) (by rw [ints_length]; exact hgt)
            cases e6
            rw [ints_get _ _ _ hgt, ← kyF_get hgt] at k6
            exact k6⟩
           rcases hfd with ⟨hfn, hm1, hnm⟩ | ⟨j, hfj, hm1, hjl2⟩
           ·rw [row_none hfn] at HR1
            have HR := Aside0.mk HR1
            rw [List.getElem?_eq_getElem hl2] at hm1
            rw [Option.some.inj hm1] at etab
            have hTj2 := Aside0.mk (tab_push hTj.out hkL hnm)
            have hlL := tab_le hTj2.out
            have hq2 := hq.set hbT2 (kyF g (nxF rows k c)) (lj.length : Int)
            have htr2 := Aside0.mk htr
            rw [List.length_append, List.length_singleton] at hlL
            clear HR1 hfn hm1 hnm hgt hTj htr
            generalize kyF g (nxF rows k c) = kt at *
            generalize nxF rows k c = t at *
            have hm0 : ((-1 : Int) < 0) = True := eq_true (by omega)
            go_wp2_with fail
            go_quiet (fail)
            generalize nq = n1
            go_wp2_with fail
            go_quiet (fail)
            have h5 := hq2.step (pw_below_drewN (Below.refl _ _) (n1 + nq))
            go_wp2_with (first
             | ((with_reducible refine gate_builtin (b := .append) (xs := #[.tmp 120, .tmp 122]) rfl ?_); go_loud (at_builtin; refine R_append' (Kd.int .i64) (w0 := w3) w3.heap.size rfl (.tmp 120) (.tmp 122) 75 2 (.int .i64 0) 8 rfl Tryd.underlying75 info_long rfl (by decide) (by decide) (.slice (some a7) lj.length c') (ints lj) (t : Int) [.int .i64 (t : Int)] (fun _ => True) (fun _ => False) _ (by simp) rfl rfl rfl (fun _ h => h.elim) (fun _ _ => trivial) h5.lst h5.bel (Below.size h5.bel) (by rw [ints_length]; omega) ?_; intro v6 w6 hR6 hb6 hg6 hat6; obtain ⟨A8, c8, hv6⟩ := Kd.R_slice hR6; have ev6 : (ints lj ++ [(t : Int)]).length = lj.length + 1 := (by simp [ints, GwI.ints]); rw [ev6] at hv6; clear ev6; subst hv6; have h6 := h5.push (Kd.R_lt h5.tab gT rfl) hg6 hat6 hR6 hb6; have eg6 := hgk.out _ h6.bel; have et6 : w6.cell? ⟨gT, kt, none⟩ = some (.int .i64 (lj.length : Int)) := (by have h := sr_at h6.tab (i := kt) (by rw [List.length_set]; exact hl2); rw [List.getElem_set_self] at h; exact h)))
             | ((with_reducible refine gate_builtin (b := .append) (xs := #[.tmp 124, .tmp 132]) rfl ?_); go_loud (at_builtin; refine R_append' (Kd.int .i64) (w0 := w3) w3.heap.size rfl (.tmp 124) (.tmp 132) 75 2 (.int .i64 0) 8 rfl Tryd.underlying75 info_long rfl (by decide) (by decide) (.slice Ar r.length cr) (ints r) (lj.length : Int) [.int .i64 (lj.length : Int)] (fun _ => True) (fun _ => False) _ (by simp) rfl rfl rfl (fun _ h => h.elim) (fun _ _ => trivial) h6.row h6.bel (Below.size h6.bel) (by have := hrc.out; rw [ints_length]; omega) ?_; intro v7 w7 hR7 hb7 hg7 hat7; obtain ⟨A6, c6, hv7⟩ := Kd.R_slice hR7; have ev : (ints r ++ [(lj.length : Int)]).length = (r ++ [lj.length]).length := (by simp [ints, GwI.ints]); rw [ev] at hv7; clear ev; subst hv7; have h7 := h6.more (Kd.R_lt h6.tab gT rfl) hg7 hat7 hR7 hb7)))
            go_roundg (wd - (c + 1))
            case measure => have := hkq.out; omega
            case rel => exact ⟨c + 1, lj ++ [t], r ++ [lj.length], _, A8, c8, A6, c6, (by simp), (by simp), (by go_num), by omega, ⟨rfl⟩, ⟨by have := hrc.out; simp; omega⟩, ⟨HR.out.1, by rw [List.append_assoc]; exact HR.out.2⟩, ⟨fun q hq => (List.mem_append.1 hq).elim (hQj.out q) (fun h => by rw [List.mem_singleton.1 h]; exact htr2.out)⟩, ⟨by rw [List.getElem?_append_left hij]; exact hji.out⟩, hTj2, ⟨by have e : (lj ++ [t]).length = lj.length + 1 := (by simp); rw [e]; exact h7⟩⟩
           ·rw [row_some hfj] at HR1
            have HR := Aside0.mk HR1
            rw [List.getElem?_eq_getElem hl2] at hm1
            rw [Option.some.inj hm1] at etab
            clear HR1 hfj hm1 hgt fT htr
            generalize kyF g (nxF rows k c) = kt at *
            generalize nxF rows k c = t at *
            have hjn : ((j : Int) < 0) = False := eq_false (by omega)
            go_wp2_with fail
            go_quiet (fail)
            generalize nq = n1
            go_wp2_with fail
            go_quiet (fail)
            have h6 := hq.step (pw_below_drewN (Below.refl _ _) (n1 + nq))
            go_wp2_with (((with_reducible refine gate_builtin (b := .append) (xs := #[.tmp 124, .tmp 132]) rfl ?_); go_loud (at_builtin; refine R_append' (Kd.int .i64) (w0 := w3) w3.heap.size rfl (.tmp 124) (.tmp 132) 75 2 (.int .i64 0) 8 rfl Tryd.underlying75 info_long rfl (by decide) (by decide) (.slice Ar r.length cr) (ints r) (j : Int) [.int .i64 (j : Int)] (fun _ => True) (fun _ => False) _ (by simp) rfl rfl rfl (fun _ h => h.elim) (fun _ _ => trivial) h6.row h6.bel (Below.size h6.bel) (by have := hrc.out; rw [ints_length]; omega) ?_; intro v7 w7 hR7 hb7 hg7 hat7; obtain ⟨A6, c6, hv7⟩ := Kd.R_slice hR7; have ev : (ints r ++ [(j : Int)]).length = (r ++ [j]).length := (by simp [ints, GwI.ints]); rw [ev] at hv7; clear ev; subst hv7; have h7 := h6.more (Kd.R_lt h6.tab gT rfl) hg7 hat7 hR7 hb7)))
            go_roundg (wd - (c + 1))
            case measure => have := hkq.out; omega
            case rel => exact ⟨c + 1, lj, r ++ [j], tab2, some a7, c', A6, c6, rfl, (by simp), (by go_num), by omega, ⟨rfl⟩, ⟨by have := hrc.out; simp; omega⟩, ⟨HR.out.1, by rw [List.append_assoc]; exact HR.out.2⟩, hQj, hji, hTj, ⟨h7⟩⟩
          ·have hcc : c = wd := by omega
           subst hcc
           have HR1 := HR.out
           simp only [List.drop_of_length_le (Nat.le_of_eq (List.length_range (n := c))), row, List.append_nil] at HR1
           have HR2 := Aside0.mk HR1
           clear HR1 HR
           have hlt2 : ((c : Int) < (c : Int)) = False := eq_false (by omega)
           go_wp2_with fail
           go_quiet (fail)
           go_wp2_with fail
           have h4 := hq.step (pw_below_drewN (Below.refl _ _) nq)
           clear e7 e3 e9 hl9 hC9 hq
           generalize wr.drewN nq = wz at *
           have hka : k < accs.length := by rw [← hlen.out]; exact hkr
           obtain ⟨am, rfl, _⟩ := at_mark cA3 k hka
           have hka1 : ((k : Int) < (accs.length : Int)) = True := eq_true (by omega)
           obtain ⟨bx, hbx⟩ : ∃ bx, Aside0 (acF accs k = bx) := ⟨_, ⟨rfl⟩⟩
           have hB : ∀ W', Below w3.heap.size w3 W' → SR W' w3.heap.size (.slice (some a7) lj.length c') (ints lj) → W'.cell? ⟨gX, 2, none⟩ = some (.slice (some am) accs.length c1) ∧ W'.cell? (a7.add i) = some (.int .i64 (k : Int)) ∧ W'.cell? (am.add k) = some (.bool bx) := by
            intro W' hb hL
            obtain ⟨a8, e8, k8⟩ := sr_at' hL (i := i) (by rw [ints_length]; exact hij)
            cases e8
            rw [ints_get lj i _ hij, (List.getElem?_eq_some_iff.1 hji.out).2] at k8
            obtain ⟨a9, e9, k9⟩ := at_mark (Kd.C_below cA3 hb) k hka
            cases e9
            rw [← acF_get hka, hbx.out] at k9
            exact ⟨(blk_cell (blk_below fX3 hb) 2).trans rfl, k8, k9⟩
           have hSS : ∀ W' vA' bs', Tt w3 tapes gV gT L cT tab2 (.slice (some a7) lj.length c') lj (.slice Ar r.length cr) r vA' bs' vN rw_ W' → W'.cell? ⟨gV, 2, none⟩ = some vA' ∧ W'.cell? ⟨gX, 2, none⟩ = some (.slice (some am) accs.length c1) ∧ W'.cell? (a7.add i) = some (.int .i64 (k : Int)) ∧ W'.cell? (am.add k) = some (.bool bx) := fun W' vA' bs' h => ⟨(blk_cell h.bV 2).trans rfl, hB W' h.bel h.lst⟩
           have hQd := h4.step (below_drew1 (Below.refl _ _))
           refine start_ (n := 14) (S := fun w' => w'.cell? ⟨gV, 2, none⟩ = some vA ∧ w'.cell? ⟨gX, 2, none⟩ = some (.slice (some am) accs.length c1) ∧ w'.cell? (a7.add i) = some (.int .i64 (k : Int)) ∧ w'.cell? (am.add k) = some (.bool bx)) (ds := [13]) (.replicate 14 false) (by kernel_rfl) rfl rfl (hSS _ _ _ hQd) (fun hHeld => ?_)
           refine pure_ (i := 0) (N := some 134) (v := ?_) (a' := ?_) (zb 14 1) rfl rfl (by kernel_rfl) (fun _ _ _ h => h) (Or.inl ⟨by rfl, ?_⟩) ?_ ?_
           rotate_left
           ·intro w'
            go_simp
            with_reducible rfl
           rotate_left
           ·simp only [Act.put, Za, Zb, Zc, i64_w, i32_w]
            rfl
           refine pure_ (i := 2) (N := some 136) (v := ?_) (a' := ?_) (zb 14 5) rfl rfl (by kernel_rfl) (fun _ _ _ h => h) (Or.inl ⟨by rfl, ?_⟩) ?_ ?_
           rotate_left
           ·intro w'
            go_simp
            with_reducible rfl
           rotate_left
           ·simp only [Act.put, Za, Zb, Zc, i64_w, i32_w]
            rfl
           refine pure_ (i := 4) (N := some 138) (v := ?_) (a' := ?_) (zb 14 21) rfl rfl (by kernel_rfl) (fun _ _ _ h => h) (Or.inl ⟨by rfl, ?_⟩) ?_ ?_
           rotate_left
           ·intro w'
            go_simp
            with_reducible rfl
           rotate_left
           ·simp only [Act.put, Za, Zb, Zc, i64_w, i32_w]
            rfl
           refine pure_ (i := 5) (N := some 139) (v := ?_) (a' := ?_) (zb 14 53) rfl rfl (by kernel_rfl) (fun _ _ _ h => h) (Or.inl ⟨by rfl, ?_⟩) ?_ ?_
           rotate_left
           ·intro w'
            go_simp
            with_reducible rfl
           rotate_left
           ·simp only [Act.put, Za, Zb, Zc, i64_w, i32_w]
            rfl
           refine pure_ (i := 6) (N := some 140) (v := ?_) (a' := ?_) (zb 14 117) rfl rfl (by kernel_rfl) (fun _ _ _ h => h) (Or.inl ⟨by rfl, ?_⟩) ?_ ?_
           rotate_left
           ·intro w'
            go_simp
            with_reducible rfl
           rotate_left
           ·simp only [Act.put, Za, Zb, Zc, i64_w, i32_w]
            rfl
           refine take_ (i := 1) (N := some 135) (v := ?_) (a' := ?_) (zb 14 119) rfl rfl (by kernel_rfl) (fun _ _ _ h => h) (Or.inl ⟨by rfl, ?_⟩) hHeld ?_ ?_
           rotate_left
           ·rintro w' ⟨s1, s2, s3, s4⟩
            go_simp
            with_reducible rfl
           rotate_left
           ·simp only [Act.put, Za, Zb, Zc, i64_w, i32_w]
            rfl
           refine take_ (i := 3) (N := some 137) (v := ?_) (a' := ?_) (zb 14 127) rfl rfl (by kernel_rfl) (fun _ _ _ h => h) (Or.inl ⟨by rfl, ?_⟩) hHeld ?_ ?_
           rotate_left
           ·rintro w' ⟨s1, s2, s3, s4⟩
            go_simp
            with_reducible rfl
           rotate_left
           ·simp only [Act.put, Za, Zb, Zc, i64_w, i32_w]
            rfl
           refine take_ (i := 7) (N := some 141) (v := ?_) (a' := ?_) (zb 14 255) rfl rfl (by kernel_rfl) (fun _ _ _ h => h) (Or.inl ⟨by rfl, ?_⟩) hHeld ?_ ?_
           rotate_left
           ·rintro w' ⟨s1, s2, s3, s4⟩
            go_simp
            with_reducible rfl
           rotate_left
           ·simp only [Act.put, Za, Zb, Zc, i64_w, i32_w]
            rfl
           refine pure_ (i := 8) (N := some 142) (v := ?_) (a' := ?_) (zb 14 511) rfl rfl (by kernel_rfl) (fun _ _ _ h => h) (Or.inl ⟨by rfl, ?_⟩) ?_ ?_
           rotate_left
           ·intro w'
            go_simp
            with_reducible rfl
           rotate_left
           ·simp only [Act.put, Za, Zb, Zc, i64_w, i32_w]
            rfl
           refine take_ (i := 9) (N := some 143) (v := ?_) (a' := ?_) (zb 14 1023) rfl rfl (by kernel_rfl) (fun _ _ _ h => h) (Or.inl ⟨by rfl, ?_⟩) hHeld ?_ ?_
           rotate_left
           ·rintro w' ⟨s1, s2, s3, s4⟩
            go_simp
            with_reducible rfl
           rotate_left
           ·simp only [Act.put, Za, Zb, Zc, i64_w, i32_w]
            rfl
           refine one_ (i := 10) (N := some 144) (zb 14 2047) rfl rfl (by kernel_rfl) (by decide) (fun K hK => ?_)
           refine value_ (w1 := wz.drew.alloc (.cells #[.bool bx] 4)) (v := .slice (some ⟨wz.drew.heap.size, 0, none⟩) 1 1) (by rfl) rfl (by first | (go_simp; done) | (go_simp; rfl)) ?_
           have hQ5 := hQd.step (below_alloc (Below.refl _ _) (.cells #[.bool bx] 4))
           refine hK.out _ _ (hSS _ _ _ hQ5) (fun hHeld => ?_)
           clear hK K
           refine norm_ (a' := ?_) ?_ ?_
           rotate_left
           ·show Act.put _ (some 144) _ = _
            simp only [Act.put, Za, Zb, Zc, i64_w, i32_w]
            rfl
           refine one_ (i := 11) (N := some 145) (zb 14 4095) rfl rfl (by kernel_rfl) (by decide) (fun K hK => ?_)
           refine Kd.R_append_step Kd.bool (w0 := w3) w3.heap.size (by rfl) (.tmp 135) (.tmp 144) 22 4 (.bool false) 1 rfl Tryd.underlying22 GwI.info_bool rfl (by decide) (by decide) vA ((li.take i).map (acF accs)) bx [.bool bx] (fun _ => True) (fun _ => False) rfl rfl rfl (fun _ h => h.elim) (fun _ _ => trivial) hQd.acc hQd.bel (Below.size hQd.bel) (by simp <;> omega) ?_
           intro v6 w6 hR6 hb6 hg6 hat6
           obtain ⟨A6, c6, hv6⟩ := Kd.R_slice hR6
           subst hv6
           obtain ⟨b26, hQ6⟩ := hQd.mark hg6 hR6 hb6
           refine hK.out _ _ ⟨(blk_cell b26 2).trans rfl, hB _ hb6 (R_off hQd.lst (Keep.grown hg6) (Off.row hQd.acc (by decide)))⟩ (fun hHeld => ?_)
           clear hK K
           refine norm_ (a' := ?_) ?_ ?_
           rotate_left
           ·show Act.put _ (some 145) _ = _
            simp only [Act.put, Za, Zb, Zc, i64_w, i32_w]
            rfl
           refine pure_ (i := 12) (N := some 146) (v := ?_) (a' := ?_) (zb 14 8191) rfl rfl (by kernel_rfl) (fun _ _ _ h => h) (Or.inl ⟨by rfl, ?_⟩) ?_ ?_
           rotate_left
           ·intro w'
            go_simp
            with_reducible rfl
           rotate_left
           ·simp only [Act.put, Za, Zb, Zc, i64_w, i32_w]
            rfl
           refine last_ (i := 13) (N := none) (zb 14 16383) rfl rfl (by kernel_rfl) (by decide) (fun K hK => ?_)
           have hf6 : w6.frozen? ⟨gV, 2, none⟩ = false := blk_frozen b26 2
           have hc6 : w6.cell? ⟨gV, 2, none⟩ = some vA := (blk_cell b26 2).trans rfl
           refine skip_ (w1 := w6.setCell ⟨gV, 2, none⟩ (.slice A6 (((li.take i).map (acF accs)) ++ [bx]).length c6)) (by rfl) rfl (by first | (go_simp; done) | (go_simp; rfl)) ?_
           refine hK.out _ _ ?_
           clear hK K
           refine done_ (by kernel_rfl) ?_
           clear hSS hB hQd hQ5 hf6 hc6 b26 hR6 hb6 hg6 hHeld h4
           generalize w6.setCell ⟨gV, 2, none⟩ (.slice A6 (((li.take i).map (acF accs)) ++ [bx]).length c6) = w7 at *
           have c73 : w7.cell? ⟨gV, 3, none⟩ = some vN := (blk_cell hQ6.bV 3).trans rfl
           have hrow : (Kd.int .i64).R 2 w7 w3.heap.size (fun j => some j = (Value.slice Ar r.length cr).ownBlock) (.slice Ar r.length cr) (ints r) := Kd.R_of_own (Kd.own_of_R hQ6.row) (fun j hj => hj.symm)
           have hgT7 := Kd.R_lt hQ6.tab gT rfl
           have hLt7 := Kd.R_lt hQ6.lst
           have hrl2 : rw_.length ≤ 1000000 := by have := hrl.out; omega
           go_wp2_with ((with_reducible refine gate_builtin (b := .append) (xs := #[.tmp 148, .tmp 150]) rfl ?_); go_loud (at_builtin; refine S_append' (Kd.slice 2 (Kd.int .i64)) (w0 := w3) w3.heap.size rfl (.tmp 148) (.tmp 150) 23 75 (.slice none 0 0) 24 rfl Tryd.underlying23 info_longs rfl (by decide) (by decide) vN (rw_.map ints) (ints r) [.slice Ar r.length cr] (fun j => j ≠ gT ∧ some j ≠ (Value.slice (some a7) lj.length c').ownBlock) (fun j => some j = (Value.slice Ar r.length cr).ownBlock ∧ some j ≠ vN.ownBlock) _ (by simp) rfl rfl (Kd.M_row (R_typed hrow (Kd.S_R hQ6.out) (by decide))) (fun j hj => ⟨⟨fun e => hQ6.tr (by rw [← hj.1, e]), fun e => hQ6.lr j e.symm hj.1⟩, hj.2⟩) (fun j hj => ⟨by omega, fun e => by have := hLt7 j e.symm; omega⟩) (Kd.S_mono hQ6.out (fun j hj => ⟨⟨hj.1, hj.2.1⟩, fun h => hj.2.2 h.1⟩)) hQ6.bel (Below.size hQ6.bel) (by rw [List.length_map]; omega) ?_; intro v8 w8 hR8 hb8 hg8 hat8; obtain ⟨A8, c8, hv8⟩ := Kd.S_slice hR8; have ev8 : (rw_.map ints ++ [ints r]).length = rw_.length + 1 := (by simp); rw [ev8] at hv8; subst hv8; obtain ⟨b28, h8⟩ := hQ6.nxt hg8 hR8 hb8; have c83 : w8.cell? ⟨gV, 3, none⟩ = some vN := (blk_cell b28 3).trans rfl; have f83 : w8.frozen? ⟨gV, 3, none⟩ = false := blk_frozen b28 3))
           go_roundg kf
           case measure => omega
           case rel =>
            obtain ⟨hm1, hm2⟩ := row_prefix (key := kyF g) (nxt := nxF rows) (s := k) (List.range c) li
            have hil3 : i + 1 ≤ lj.length := by omega
            have e1 : (lj.take (i + 1)).map (acF accs) = (li.take i).map (acF accs) ++ [bx] := by
             rw [HR2.out.1, hm2, List.take_append_of_le_length (by omega), List.take_succ_eq_append_getElem hlt, List.map_append, ← hbx.out, HK.out]
             rfl
            exact ⟨i + 1, lj, rw_ ++ [r], tab2, some a7, c', .slice A6 (((li.take i).map (acF accs)) ++ [bx]).length c6, .slice A8 (rw_.length + 1) c8, rfl, (by go_num), ⟨by rw [HR2.out.1, HR2.out.2]; exact HH.out⟩, ⟨by have := hrl.out; simp; omega⟩, hil3, hQj, hTj, ⟨by rw [e1]; exact h8⟩⟩
        ·have hii : i = li.length := by omega
         subst hii
         cases gk with
         | zero => exact absurd H.out (by simp [bfs])
         | succ kf =>
         have H1 := H.out
         unfold bfs at H1
         rw [dif_neg (by omega)] at H1
         simp only [Option.some.injEq, Prod.mk.injEq] at H1
         obtain ⟨rfl, rfl⟩ := H1
         rw [List.take_of_length_le (Nat.le_refl _)] at h
         have hlt1 : ((li.length : Int) < (li.length : Int)) = False := eq_false (by omega)
         obtain ⟨AA2, cA2, rfl⟩ := Kd.R_slice h.acc
         obtain ⟨AN2, cN2, rfl⟩ := Kd.S_slice h.out
         rw [List.length_map] at h
         have hbV := h.bV
         rw [List.length_map, hrl.out] at hbV
         have d0 : wo.cell? ⟨gV, 0, none⟩ = some (.int .i64 tapes) := (blk_cell hbV 0).trans rfl
         have d1 : wo.cell? ⟨gV, 1, none⟩ = some (.int .i64 0) := (blk_cell hbV 1).trans rfl
         have d2 : wo.cell? ⟨gV, 2, none⟩ = some (.slice AA2 li.length cA2) := (blk_cell hbV 2).trans rfl
         have d3 : wo.cell? ⟨gV, 3, none⟩ = some (.slice AN2 li.length cN2) := (blk_cell hbV 3).trans rfl
         have b := blk_below fR3 h.bel
         have e0 : wo.cell? ⟨w.heap.size, 0, none⟩ = some (.int .i64 0) := (blk_cell b 0).trans rfl
         have e1 : wo.cell? ⟨w.heap.size, 1, none⟩ = some (.int .i64 0) := (blk_cell b 1).trans rfl
         have e2 : wo.cell? ⟨w.heap.size, 2, none⟩ = some (.slice none 0 0) := (blk_cell b 2).trans rfl
         have e3 : wo.cell? ⟨w.heap.size, 3, none⟩ = some (.slice none 0 0) := (blk_cell b 3).trans rfl
         have f0 : wo.frozen? ⟨w.heap.size, 0, none⟩ = false := blk_frozen b 0
         have f1 : wo.frozen? ⟨w.heap.size, 1, none⟩ = false := blk_frozen b 1
         have f2 : wo.frozen? ⟨w.heap.size, 2, none⟩ = false := blk_frozen b 2
         have f3 : wo.frozen? ⟨w.heap.size, 3, none⟩ = false := blk_frozen b 3
         have hbel := below_step bW h.bel
         go_wp2_with fail
         have hA := Kd.R_lower h.acc (Below.size bW)
         have hbs2 : li.map (acF accs) = bs := hbss.out
         rw [hbs2] at hA
         have hN := Kd.S_lower h.out (Below.size bW)
         clear d0 d1 d2 d3 e0 e1 e2 e3 f0 f1 f2 f3
         rw [List.length_map, hrl.out] at hN
         have b1 := blk_put b 0 (.int .i64 tapes) rfl
         have b2 := blk_put b1 1 (.int .i64 0) rfl
         have b3 := blk_put b2 2 (.slice AA2 li.length cA2) rfl
         have b4 := blk_put b3 3 (.slice AN2 li.length cN2) rfl
         refine bodyPost_ret (results_cell_row rfl _ _ w.heap.size 27 #[.int .i64 tapes, .int .i64 0, .slice AA2 li.length cA2, .slice AN2 li.length cN2] (0, 0) _ rfl b4 Tryd.underlying27 rfl (by kernel_rfl)) rfl ⟨_, _, rfl, ?_, ?_, ?_⟩
         ·exact Kd.R_set (Kd.R_set (Kd.R_set (Kd.R_set hA b (by decide) 0 _) b1 (by decide) 1 _) b2 (by decide) 2 _) b3 (by decide) 3 _
         ·exact Kd.S_mono (Kd.S_set (Kd.S_set (Kd.S_set (Kd.S_set hN b (by decide) 0 _) b1 (by decide) 1 _) b2 (by decide) 2 _) b3 (by decide) 3 _) (fun _ _ => trivial)
         ·exact (((hbel.setCell (by simp) _).setCell (by simp) _).setCell (by simp) _).setCell (by simp) _
    ·have hd1 : ((L : Int) == (n' : Int)) = false := by simp; omega
     go_wp2_with (go_at_call 80; go_loud (with_reducible refine (hF2.out _ gX A1 c1 A2 c2 A4 c4 (blk_below fX hb) (Kd.C_below cA hb) hc1 (Kd.C_below cN hb) hc2 (by rw [ints_length] at hCg; exact hCg) hq2 hgl.out).mono ?_; rintro e w3 ⟨v0, rfl, r3, hb3⟩; obtain ⟨A5, c5, rfl⟩ := Kd.R_slice r3; rw [ints_length] at r3; have r5 := Kd.R_lower r3 (Below.size hb); have hb5 := below_step hb hb3))
     go_roundg kf
     case measure => omega
     case rel => exact ⟨out, L, A5, c5, by rw [ints_length], rfl, ⟨by have := hst2.out; rw [if_neg hLn] at this; exact this⟩, hnu2, ⟨hb5⟩, ⟨r5⟩⟩
end Go.Proofs.YtnjdkhnepmmfgaaDoor.Tw
namespace Go.Proofs.YtnjdkhnepmmfgaaDoor.To
set_option linter.unusedVariables false
set_option linter.unusedSimpArgs false
open Go.RowKit Go.Proofs.YtnjdkhnepmmfgaaDoorW.PrintWords Go.Proofs.YtnjdkhnepmmfgaaDoorW.PrintLast Go.Proofs.YtnjdkhnepmmfgaaDoorW.PrintMore Kp Cl Mg Td Tdy
set_option maxHeartbeats 8000000 in
set_option maxRecDepth 100000 in
theorem tidyOf (tapes : Nat) (htp : tapes ≤ 3) (start : Nat) (accs : List Bool) (rows : List (List Nat)) (wd : Nat) (hwd1 : 0 < wd) (hwd2 : wd ≤ 30) (hcl : Closed wd rows accs) (hn : rows.length ≤ 100000) (hst : start < rows.length)
  (hwd : ∀ W, Calls Tryd.prog 94 #[.int .i64 tapes] W fun e W' => e = .returned (.int .i64 wd) ∧ Below W.heap.size W W')
  (dig : Nat → List Nat) (hdl : ∀ c, c < wd → (dig c).length = tapes) (hds : ∀ c, c < wd → ∀ d ∈ dig c, d < 3)
  (hdig : ∀ W c, c < wd → Calls Tryd.prog 62 #[.int .i64 tapes, .int .i64 (c : Int)] W fun e W' => ∃ v, e = .returned v ∧ Kd.R (Kd.int .i64) 3 W' W.heap.size (fun _ => True) v (ints (dig c)) ∧ Below W.heap.size W W')
  (w : World) (hG : It.Glob w) (AA : Option Addr) (ca : Nat) (AN : Option Addr) (cn : Nat) (hA : Kd.C Kd.bool w AA accs.length accs) (hN : Kd.C (Kd.slice 2 (Kd.int .i64)) w AN rows.length (rows.map ints)) (hca : accs.length ≤ ca) (hcn : rows.length ≤ cn) (bs : List Bool) (rws : List (List Nat)) (ht : Tidied wd rows accs start (padOf dig) bs rws) :
  Calls Tryd.prog 42 #[.agg #[.int .i64 tapes, .int .i64 start, .slice AA accs.length ca, .slice AN rows.length cn]] w fun e w' => ∃ vA vN, e = .returned (.agg #[.int .i64 tapes, .int .i64 0, vA, vN]) ∧
   Kd.R Kd.bool 4 w' w.heap.size (fun _ => True) vA bs ∧ Kd.R (Kd.slice 3 (Kd.int .i64)) 87 w' w.heap.size (fun _ => True) vN (rws.map ints) ∧ Below w.heap.size w w' := by
 have hlen := hcl.len
 have hmo : ∀ W, Below w.heap.size w W → _ := fun W hb => Mo.machineOf tapes start accs (rows.map ints) (by omega) (by omega) (by rw [List.length_map]; omega) (by
  intro r hr
  obtain ⟨x, hx, rfl⟩ := List.mem_map.1 hr
  rw [ints_length, hcl.wide x hx]
  omega) W AA ca AN cn (Kd.C_below hA hb) hca (by rw [List.length_map]; exact Kd.C_below hN hb) (by rw [List.length_map]; exact hcn)
 have hcl2 := Aside0.mk hcl
 have hl2 := Aside0.mk hlen
 rw [List.length_map] at hmo
 have ht2 := Aside0.mk ht
 clear hcl hlen hA hN
 go_enter Tryd.func42, Tryd.ntmps42
 go_wp2_with (first
  | (go_at_call 83; go_loud (refine (hmo _ (below_alloc (below_alloc (Below.refl _ _) _) _)).mono ?_; rintro e w1 ⟨vA, vN, rfl, r1, r2, hb1⟩; obtain ⟨A1, c1, rfl, hc1, hC1⟩ := Kd.R_reads r1; obtain ⟨A2, c2, rfl, hc2, hC2⟩ := Kd.R_reads r2; rw [List.length_map] at hc2 hC2 ⊢; have hB1 := below_step (below_alloc (below_alloc (Below.refl _ _) _) _) hb1; have bR1 := blk_below (blk_at (w.alloc (.cells #[.int .i64 (tapes : Int), .int .i64 (start : Int), .slice AA accs.length ca, .slice AN rows.length cn] 27)) (.cells #[.int .i64 0, .int .i64 0, .slice none 0 0, .slice none 0 0] 66) (w.heap.size + 1) (by simp)) hb1))
  | (go_at_call 84; go_loud (refine Calls.mono (tidy It.T It.T_size It.Glob It.glob_below It.itoa It.inj tapes htp start accs rows wd hwd1 hwd2 hcl2.out hn hst hwd dig hdl hds hdig w1 (It.glob_below _ _ hG hB1) A1 c1 A2 c2 hC1 hC2 hc1 hc2 bs rws ht2.out) ?_; rintro e w8 ⟨vA, vN, rfl, q1, q2, hb8⟩; obtain ⟨A3, c3, rfl⟩ := Kd.R_slice q1; obtain ⟨A4, c4, rfl⟩ := Kd.R_slice q2; rw [List.length_map] at q2 ⊢; have b0 := blk_below bR1 hb8; have e0 : w8.cell? ⟨w.heap.size + 1, 0, none⟩ = some (.int .i64 0) := (blk_cell b0 0).trans rfl; have e1 : w8.cell? ⟨w.heap.size + 1, 1, none⟩ = some (.int .i64 0) := (blk_cell b0 1).trans rfl; have e2 : w8.cell? ⟨w.heap.size + 1, 2, none⟩ = some (.slice none 0 0) := (blk_cell b0 2).trans rfl; have e3 : w8.cell? ⟨w.heap.size + 1, 3, none⟩ = some (.slice none 0 0) := (blk_cell b0 3).trans rfl; have g0 : w8.frozen? ⟨w.heap.size + 1, 0, none⟩ = false := blk_frozen b0 0; have g1 : w8.frozen? ⟨w.heap.size + 1, 1, none⟩ = false := blk_frozen b0 1; have g2 : w8.frozen? ⟨w.heap.size + 1, 2, none⟩ = false := blk_frozen b0 2; have g3 : w8.frozen? ⟨w.heap.size + 1, 3, none⟩ = false := blk_frozen b0 3)))
 have hB8 := below_step hB1 hb8
 have q3 := Kd.R_lower q1 (Below.size hB1)
 have q4 := Kd.R_lower q2 (Below.size hB1)
 have b1 := blk_put b0 0 (.int .i64 (tapes : Int)) rfl
 have b2 := blk_put b1 1 (.int .i64 0) rfl
 have b3 := blk_put b2 2 (.slice A3 bs.length c3) rfl
 have b4 := blk_put b3 3 (.slice A4 rws.length c4) rfl
 refine bodyPost_ret (results_cell_row rfl _ _ (w.heap.size + 1) 66 #[.int .i64 tapes, .int .i64 0, .slice A3 bs.length c3, .slice A4 rws.length c4] (0, 0) _ rfl b4 Tryd.underlying66 rfl (by kernel_rfl)) rfl ⟨_, _, rfl, ?_, ?_, ?_⟩
 ·exact Kd.R_set (Kd.R_set (Kd.R_set (Kd.R_set q3 b0 (by decide) 0 _) b1 (by decide) 1 _) b2 (by decide) 2 _) b3 (by decide) 3 _
 ·exact Kd.R_set (Kd.R_set (Kd.R_set (Kd.R_set q4 b0 (by decide) 0 _) b1 (by decide) 1 _) b2 (by decide) 2 _) b3 (by decide) 3 _
 ·exact (((hB8.setCell (by simp) _).setCell (by simp) _).setCell (by simp) _).setCell (by simp) _
end Go.Proofs.YtnjdkhnepmmfgaaDoor.To
namespace Go.Proofs.YtnjdkhnepmmfgaaDoor.Tid
set_option linter.unusedVariables false
set_option linter.unusedSimpArgs false
open Go.RowKit Go.Proofs.YtnjdkhnepmmfgaaDoorW.PrintWords Go.Proofs.YtnjdkhnepmmfgaaDoorW.PrintLast Go.Proofs.YtnjdkhnepmmfgaaDoorW.PrintMore Tdy Td Mg Rg Ti Tf PB1
def Glob (w : World) : Prop := It.Glob w
theorem glob_below {w w' : World} (h : Glob w) (hb : Below w.heap.size w w') : Glob w' := It.glob_below _ _ h hb
def nats (l : List Int) : List Nat := l.map Int.toNat
/-- What is right enough to be made tidy. -/
def okM (a0 a1 : Int) (l2 : List Bool) (l3 : List (List Int)) : Prop := (1 ≤ a0 ∧ a0 ≤ 3) ∧ (0 ≤ a1 ∧ a1 < (l3.length : Int)) ∧ l2.length = l3.length ∧ l3.length ≤ 100000 ∧ ∀ r ∈ l3, r.length = wdOf a0.toNat ∧ ∀ x ∈ r, 0 ≤ x ∧ x < (l3.length : Int)
instance (a0 a1 : Int) (l2 : List Bool) (l3 : List (List Int)) : Decidable (okM a0 a1 l2 l3) := by unfold okM; infer_instance
def tidM (a0 a1 : Int) (l2 : List Bool) (l3 : List (List Int)) : List Bool × List (List Nat) := tidL (wdOf a0.toNat) (l3.map nats) l2 a1.toNat (padT a0.toNat)
def tidF (a0 a1 : Int) (l2 : List Bool) (l3 : List (List Int)) : Option (Int × Int × List Bool × List (List Int)) := if okM a0 a1 l2 l3 then some (a0, 0, (tidM a0 a1 l2 l3).1, (tidM a0 a1 l2 l3).2.map ints) else none
def impl_tidyOf.f (a0_0 a0_1 : Int) (l0_2 : List Bool) (l0_3 : List (List Int)) : Option (Int × Int × List Bool × List (List Int)) := tidF a0_0 a0_1 l0_2 l0_3
def spec_l01Tidied.f (a0_0 a0_1 : Int) (l0_2 : List Bool) (l0_3 : List (List Int)) : Option (Int × Int × List Bool × List (List Int)) := tidF a0_0 a0_1 l0_2 l0_3
theorem nats_ints {l : List Int} (h : ∀ x ∈ l, 0 ≤ x) : ints (nats l) = l := by
 have e : (l.map Int.toNat).map Int.ofNat = l := by
  rw [List.map_map]
  conv => rhs; rw [← List.map_id l]
  exact List.map_congr_left (fun x hx => by have := h x hx; simp; omega)
 exact e
theorem rows_ints {l : List (List Int)} (h : ∀ r ∈ l, ∀ x ∈ r, 0 ≤ x) : (l.map nats).map ints = l := by
 rw [List.map_map]
 conv => rhs; rw [← List.map_id l]
 exact List.map_congr_left (fun r hr => nats_ints (h r hr))
/-- The parts of a right machine, as natural numbers. -/
structure Ok (a0 a1 : Int) (l2 : List Bool) (l3 : List (List Int)) (t s : Nat) (rows : List (List Nat)) : Prop where
 t0 : a0 = (t : Int)
 t1 : 0 < t
 t2 : t < 4
 s0 : a1 = (s : Int)
 rw_ : rows = l3.map nats
 eq : l3 = rows.map ints
 s1 : s < rows.length
 cl : Closed (wdOf t) rows l2
 n : rows.length ≤ 100000
theorem okM_ok {a0 a1 : Int} {l2 : List Bool} {l3 : List (List Int)} (h : okM a0 a1 l2 l3) : Ok a0 a1 l2 l3 a0.toNat a1.toNat (l3.map nats) := by
 obtain ⟨⟨h1, h2⟩, ⟨h3, h4⟩, h5, h6, h7⟩ := h
 have he := rows_ints (fun r hr x hx => ((h7 r hr).2 x hx).1)
 refine ⟨by omega, by omega, by omega, by omega, rfl, he.symm, by rw [List.length_map]; omega, ⟨by rw [List.length_map]; exact h5.symm, ?_, ?_⟩, by rw [List.length_map]; exact h6⟩
 ·intro r hr
  obtain ⟨r', hr', rfl⟩ := List.mem_map.1 hr
  simp only [nats, List.length_map]
  exact (h7 r' hr').1
 ·intro r hr q hq
  obtain ⟨r', hr', rfl⟩ := List.mem_map.1 hr
  obtain ⟨x, hx, rfl⟩ := List.mem_map.1 hq
  have := (h7 r' hr').2 x hx
  rw [List.length_map]
  omega
theorem two_pow {t : Nat} (h : t < 4) : 0 < 2 ^ t ∧ 2 ^ t ≤ 8 := by
 have : t = 0 ∨ t = 1 ∨ t = 2 ∨ t = 3 := by omega
 rcases this with rfl | rfl | rfl | rfl <;> decide
section
variable {a0 a1 : Int} {l2 : List Bool} {l3 : List (List Int)} {t s : Nat} {rows : List (List Nat)}
theorem Ok.pad (h : Ok a0 a1 l2 l3 t s rows) : ∀ c, c < wdOf t → padT t c < 2 ^ t := fun c hc => fin_pad t h.t2 c (by have := wd_le t h.t2; omega)
theorem Ok.made (h : Ok a0 a1 l2 l3 t s rows) : Made (wdOf t) rows l2 s (padT t) (tidL (wdOf t) rows l2 s (padT t)).1 (tidL (wdOf t) rows l2 s (padT t)).2 :=
 Ti.made h.cl h.s1 (fun c hc => Nat.lt_of_lt_of_le (h.pad c hc) (two_pow h.t2).2)
end
theorem spec_l01Tidied.calls (gp0 : Nat) (a0_0 a0_1 : Int) (A0_2 : Option Addr) (c0_2 : Nat) (l0_2 : List Bool) (A0_3 : Option Addr) (c0_3 : Nat) (l0_3 : List (List Int)) (r1 r2 : Int) (r3 : List Bool) (r4 : List (List Int)) (w : World) (hb0 : w.heap[gp0]? = some (.cells #[.int .i64 a0_0, .int .i64 a0_1, .slice A0_2 l0_2.length c0_2, .slice A0_3 l0_3.length c0_3] 27 (0, 0)))
  (hr0_2 : Kd.C Kd.bool w A0_2 l0_2.length l0_2) (hc0_2 : l0_2.length ≤ c0_2) (hr0_3 : Kd.C (Kd.slice 2 (Kd.int .i64)) w A0_3 l0_3.length l0_3) (hc0_3 : l0_3.length ≤ c0_3) (h : spec_l01Tidied.f a0_0 a0_1 l0_2 l0_3 = some (r1, r2, r3, r4)) :
  Calls Tryd.prog 39 #[.pointer (some ⟨gp0, 0, none⟩)] w fun e w' => ∃ v2_ v3_ : Value, e = .returned (.agg #[.int .i64 r1, .int .i64 r2, v2_, v3_]) ∧ Kd.R Kd.bool 4 w' w.heap.size (fun _ => True) v2_ r3 ∧ Kd.S (Kd.slice 2 (Kd.int .i64)) 75 w' w.heap.size (fun _ => True) v3_ r4 ∧ Below w.heap.size w w' := by
 unfold spec_l01Tidied.f tidF at h
 split at h
 ·rename_i hok
  have hk := okM_ok hok
  have hm := hk.made
  obtain ⟨rfl, rfl, rfl, rfl⟩ : a0_0 = r1 ∧ 0 = r2 ∧ (tidM a0_0 a0_1 l0_2 l0_3).1 = r3 ∧ (tidM a0_0 a0_1 l0_2 l0_3).2.map ints = r4 := by simpa using h
  have e0 := hk.t0
  have e1 := hk.s0
  have e3 := hk.eq
  obtain ⟨t, ht⟩ : ∃ t, a0_0.toNat = t := ⟨_, rfl⟩
  obtain ⟨s, hs⟩ : ∃ s, a0_1.toNat = s := ⟨_, rfl⟩
  obtain ⟨rows, hr⟩ : ∃ rows, l0_3.map nats = rows := ⟨_, rfl⟩
  unfold tidM
  rw [ht, hs, hr] at hk hm ⊢
  rw [ht] at e0
  rw [hs] at e1
  rw [hr] at e3
  have hwd := wd_le _ hk.t2
  have hz := two_pow hk.t2
  have hP : w.heap[gp0]? = some (.cells #[.int .i64 (t : Int), .int .i64 (s : Int), .slice A0_2 l0_2.length c0_2, .slice A0_3 rows.length c0_3] 27 (0, 0)) := by
   rw [hb0, e0, e1, e3, List.length_map]
  have hN : Kd.C (Kd.slice 2 (Kd.int .i64)) w A0_3 rows.length (rows.map ints) := by
   rw [e3, List.length_map] at hr0_3
   exact hr0_3
  have hcall := Tw.tidied (t : Int) (s : Int) l0_2 (rows.map ints) (wdOf t) (wd_pos _ hk.t2 hk.t1) (by omega) w gp0 A0_2 c0_2 A0_3 c0_3 (by rw [List.length_map]; exact hP)
   (fun accs rowsY => ∃ li rw_, Rgt (wdOf t) rows.length (2 ^ t) rows (padT t) s li rw_ ∧ accs = accsX l0_2 (2 ^ t) li ∧ rowsY = rowsX (wdOf t) li.length rw_ ∧ li.length ≤ 800000) ?_ ?_ (tidL (wdOf t) rows l0_2 s (padT t)).1 (tidL (wdOf t) rows l0_2 s (padT t)).2 ?_
  ·rw [e0]
   exact hcall
  ·intro W hbW
   refine (Rg.right t (by have := hk.t2; omega) (2 ^ t) rfl s l0_2 rows (wdOf t) (wd_pos _ hk.t2 hk.t1) (by omega) hk.cl hk.n hk.s1 (enC (padT t)) (fun e c e' _ hc h => ?_)
    (fun W => (spec_l01Wide.calls 10 _ _ W (fin_wide _ hk.t2).2).mono (fun e W' hh => ⟨hh.1, hh.2.below⟩))
    (fun W e c he hc => (spec_l01Ended.calls 60 _ _ _ _ W (fin_ended t hk.t2 e he c hc)).mono (fun e W' hh => ⟨hh.1, hh.2.below⟩)) W gp0 A0_2 c0_2 A0_3 c0_3 (blk_below hP hbW) (Kd.C_below hr0_2 hbW) (Kd.C_below hN hbW)).mono ?_
   ·unfold enC at h
    split at h
    ·cases h
     exact hk.pad c hc
    ·cases h
   ·rintro e w1 ⟨vA, vN, li, rw_, rfl, q1, q2, h1, h2, h3, h4, h5, h6, hb⟩
    have hle : rows.length * 2 ^ t ≤ 100000 * 8 := Nat.mul_le_mul hk.n hz.2
    exact ⟨_, _, ⟨li, rw_, ⟨h1, h2, h3, h4⟩, rfl, rfl, by omega⟩, vA, vN, rfl, q1, by rw [rowsX_ints h2]; exact q2, hb⟩
  ·rintro accs rowsY ⟨li, rw_, hR, rfl, rfl, hle⟩ W gx A2 c2 A3 c3 A1 c1 g hbX hA2 hc2 hA3 hc3 hA1 hc1 hgl
   have hc := rgt_closed (accs := l0_2) hR
   exact Fi.finer (t : Int) 0 (accsX l0_2 (2 ^ t) li) (rowsX (wdOf t) li.length rw_) g hgl (by rw [rowsX_len hR]; omega) (by rw [rowsX_len hR]; omega) W gx A1 c1 (blk_lt hbX) hA1
    (fun W' x y hb hx hy => Fi.alike (t : Int) 0 (rowsX (wdOf t) li.length rw_) g (wdOf t) hc.wide hc.lt hgl (by omega) gx A2 _ c2 A3 c3 A1 c1 W' (blk_below hbX hb) (Kd.C_below hA3 hb) (Kd.C_below hA1 hb) x y hx hy)
  ·rintro accs rowsY ⟨li, rw_, hR, rfl, rfl, hle⟩
   exact ⟨rgt_closed hR, by rw [rowsX_len hR]; omega, by rw [rowsX_len hR]; omega, made_spec hm hR (fun c hc => hk.pad c hc) hz.1⟩
 ·cases h
end Go.Proofs.YtnjdkhnepmmfgaaDoor.Tid
namespace Go.Proofs.YtnjdkhnepmmfgaaDoor.Ti
set_option linter.unusedVariables false
set_option linter.unusedSimpArgs false
open Go.RowKit Go.Proofs.YtnjdkhnepmmfgaaDoorW.PrintWords Go.Proofs.YtnjdkhnepmmfgaaDoorW.PrintLast Go.Proofs.YtnjdkhnepmmfgaaDoorW.PrintMore Tdy Td Mg Rg
theorem bfs_more {σ κ : Type} [DecidableEq κ] {key : σ → κ} {nxt : σ → Nat → σ} {cols : List Nat} {limit : Nat} : ∀ (f f' i : Nat) (l : List σ) (rows : List (List Nat)) (x y : Option (List σ × List (List Nat))), bfs key nxt cols limit f i l rows = some x → bfs key nxt cols limit f' i l rows = some y → x = y
 | 0, _, i, l, rows, x, y, h, _ => by simp [bfs] at h
 | f + 1, 0, i, l, rows, x, y, _, h => by simp [bfs] at h
 | f + 1, f' + 1, i, l, rows, x, y, h, h' => by
  unfold bfs at h h'
  split at h
  ·rename_i hi
   rw [dif_pos hi] at h'
   split at h
   ·rename_i hc
    rw [if_pos hc] at h'
    exact (Option.some.inj h).symm.trans (Option.some.inj h')
   ·rename_i hc
    rw [if_neg hc] at h'
    exact bfs_more f f' _ _ _ x y h h'
  ·rename_i hi
   rw [dif_neg hi] at h'
   exact (Option.some.inj h).symm.trans (Option.some.inj h')
section
variable {wd : Nat} {rows : List (List Nat)} {accs : List Bool} {start : Nat} {pad : Nat → Nat} {bs : List Bool} {rws : List (List Nat)}
/-- What is made is a right machine of the same language. -/
theorem made_good (hm : Made wd rows accs start pad bs rws) : Closed wd rws bs ∧ 0 < rws.length ∧ rws.length ≤ 8 * rows.length + 1 ∧ Same wd (mach rws bs) (right (mach rows accs) (okC pad) pad) 0 (some (start, 0)) := by
 obtain ⟨lp, rp, g, l, h1, h2, h3, rfl, c1, hrp, s1, k1, o1, hle⟩ := hm.is
 unfold byClass at h3
 obtain ⟨hd, m, hm2⟩ := bfs_done _ 0 [g.getD 0 0] [] l rws h3 (Nat.zero_le _) rfl (List.pairwise_singleton _ _) (fun r hr => by cases hr) (fun i hi => by cases hi)
 have hl0 : 0 < l.length := by rw [hm2]; simp
 have hall : ∀ a ∈ l, ∃ x, x < rp.length ∧ a = g.getD x 0 := bfs_all (Q := fun a => ∃ x, x < rp.length ∧ a = g.getD x 0) (by
  rintro a ⟨x, hx, rfl⟩ c hc
  exact ⟨_, c1.step (o1.lt x hx) (List.mem_range.1 hc), rfl⟩) _ 0 _ _ l rws h3 (fun a ha => by rw [List.mem_singleton.1 ha]; exact ⟨0, hrp, rfl⟩)
 have hlen : l.length ≤ rp.length := by
  have hnd : l.Nodup := hd.apart
  have := nodup_le (m := (List.range rp.length).map (fun x => g.getD x 0)) hnd (fun a ha => by
   obtain ⟨x, hx, rfl⟩ := hall a ha
   exact List.mem_map.2 ⟨x, List.mem_range.2 hx, rfl⟩)
  simpa using this
 have hrl : rp.length = lp.length := by have := c1.len; simpa using this
 refine ⟨done_closed _ hd, by rw [hd.len]; exact hl0, by rw [hd.len]; omega, ?_⟩
 have hds := done_same (A := ⟨fun a c => g.getD ((rp.getD (oneOf g a) []).getD c 0) 0, fun a => (lp.map (accP accs)).getD (oneOf g a) false⟩) hd hl0
 have e0 : l[0] = g.getD 0 0 := by
  have h : l[0]? = some (g.getD 0 0) := by rw [hm2]; rfl
  rw [List.getElem?_eq_getElem hl0] at h
  exact Option.some.inj h
 rw [e0] at hds
 refine (hds.trans ?_).trans s1
 refine Same.of (R := fun a x => ∃ y, y < rp.length ∧ x < rp.length ∧ a = g.getD y 0 ∧ Same wd (mach rp (lp.map (accP accs))) (mach rp (lp.map (accP accs))) y x) ?_ ?_ ⟨0, hrp, hrp, rfl, Same.refl _ _ _⟩
 ·rintro a x ⟨y, hy, hx, rfl, hs⟩
  exact (((k1.iff_ _ _ (o1.lt y hy) hy).1 (o1.eq y hy)).trans hs).acc
 ·rintro a x ⟨y, hy, hx, rfl, hs⟩ c hc
  have hsx := ((k1.iff_ _ _ (o1.lt y hy) hy).1 (o1.eq y hy)).trans hs
  exact ⟨_, c1.step (o1.lt y hy) hc, c1.step hx hc, rfl, hsx.step hc⟩
/-- Two machines of one language are made the same. -/
theorem made_eq {rows' : List (List Nat)} {accs' : List Bool} {start' : Nat} {bs' : List Bool} {rws' : List (List Nat)} (hm : Made wd rows accs start pad bs rws) (hm' : Made wd rows' accs' start' pad bs' rws')
  (hs : Same wd (right (mach rows accs) (okC pad) pad) (right (mach rows' accs') (okC pad) pad) (some (start, 0)) (some (start', 0))) : bs = bs' ∧ rws = rws' := by
 obtain ⟨lp, rp, g, l, h1, h2, h3, rfl, c1, hrp, s1, k1, o1, hle⟩ := hm.is
 obtain ⟨lp', rp', g', l', h1', h2', h3', rfl, c1', hrp', s1', k1', o1', hle'⟩ := hm'.is
 obtain ⟨m, hm1, hm2⟩ := canon_eq c1 c1' k1 k1' o1 hrp hrp' ((s1.trans hs).trans s1'.symm) h3
 obtain ⟨m', hn1, hn2⟩ := canon_eq c1' c1' k1' k1' o1' hrp' hrp' (Same.refl _ _ _) h3'
 unfold byState at hm1 hn1
 have := Option.some.inj (bfs_more _ _ _ _ _ _ _ hm1 hn1)
 injection this with e1 e2
 subst e1
 exact ⟨hm2.trans hn2.symm, e2⟩
end
end Go.Proofs.YtnjdkhnepmmfgaaDoor.Ti
namespace Go.Proofs.YtnjdkhnepmmfgaaDoor.Tr
set_option linter.unusedVariables false
set_option linter.unusedSimpArgs false
open Go.RowKit Go.Proofs.YtnjdkhnepmmfgaaDoorW.PrintWords Go.Proofs.YtnjdkhnepmmfgaaDoorW.PrintLast Go.Proofs.YtnjdkhnepmmfgaaDoorW.PrintMore Kp Mg Mk Tdy Td Rg Ti Tf PB1 Tid
structure RRes where
 t : Int
 s : Int
 a : List Bool
 b : List (List Int)
 c : Int
def bad (c : Int) : RRes := ⟨0, 0, [], [], c⟩
def toldR (t : Int) (a : List Bool) (b : List (List Int)) : RRes := if a.length ≤ 150 then ⟨t, 0, a, b, 0⟩ else bad 3
/-- A relation of its own, and a code, are returned. -/
def Gives (R : RRes) (w0 : World) (e : Ending) (w' : World) : Prop := ∃ A2 c2 A3 c3, e = .returned (.tuple #[.agg #[.int .i64 R.t, .int .i64 R.s, .slice A2 R.a.length c2, .slice A3 R.b.length c3], .int .i64 R.c]) ∧ Rel w' w0.heap.size (fun _ => True) A2 c2 R.a A3 c3 R.b ∧ Below w0.heap.size w0 w'
theorem gives_bad {c : Int} {w0 w' : World} {e : Ending} (he : e = .returned (.tuple #[.agg #[.int .i64 0, .int .i64 0, .slice none 0 0, .slice none 0 0], .int .i64 c])) (hb : Below w0.heap.size w0 w') : Gives (bad c) w0 e w' :=
 ⟨none, 0, none, 0, he, ⟨Kd.R_nil _ _ _ _ _, Kd.S_nil _ _ _ _ _⟩, hb⟩
theorem tidy_calls (t s : Nat) (accs : List Bool) (rows : List (List Nat)) (ht1 : 0 < t) (ht2 : t < 4) (hs : s < rows.length) (hcl : Closed (wdOf t) rows accs) (hn : rows.length ≤ 100000) (w : World) (hG : Glob w) (AA : Option Addr) (ca : Nat) (AN : Option Addr) (cn : Nat)
  (hA : Kd.C Kd.bool w AA accs.length accs) (hN : Kd.C (Kd.slice 3 (Kd.int .i64)) w AN rows.length (rows.map ints)) (hca : accs.length ≤ ca) (hcn : rows.length ≤ cn) :
  Calls Tryd.prog 84 #[.agg #[.int .i64 (t : Int), .int .i64 (s : Int), .slice AA accs.length ca, .slice AN rows.length cn]] w fun e w' => ∃ vA vN, e = .returned (.agg #[.int .i64 (t : Int), .int .i64 0, vA, vN]) ∧
   Kd.R Kd.bool 4 w' w.heap.size (fun _ => True) vA (tidL (wdOf t) rows accs s (padT t)).1 ∧ Kd.R (Kd.slice 3 (Kd.int .i64)) 87 w' w.heap.size (fun _ => True) vN ((tidL (wdOf t) rows accs s (padT t)).2.map ints) ∧ Below w.heap.size w w' :=
 Td.tidy It.T It.T_size It.Glob It.glob_below It.itoa It.inj t (by omega) s accs rows (wdOf t) (wd_pos _ ht2 ht1) (by have := wd_le _ ht2; omega) hcl hn hs
  (fun W => (impl_widthOf.calls 10 _ _ W (fin_wide _ ht2).1).mono (fun e W' hh => ⟨hh.1, hh.2.below⟩)) (digs t) (fun c _ => digs_len _ _) (fun c _ => digs_lt _ _)
  (fun W c hc => (impl_digitsOf.calls 10 _ _ _ W (fin_digs _ ht2 c (by have := wd_le _ ht2; omega))).mono (fun e W' hh => by obtain ⟨v, h1, h2, h3⟩ := hh; exact ⟨v, h1, h2, h3⟩))
  w hG AA ca AN cn hA hN hca hcn _ _ (made_tidied (Ti.made hcl hs (fun c hc => Nat.lt_of_lt_of_le (fin_pad t ht2 c (by have := wd_le t ht2; omega)) (two_pow ht2).2)))
/-- The tidy machine is right. -/
theorem tid_good {t s : Nat} {accs : List Bool} {rows : List (List Nat)} (ht2 : t < 4) (hs : s < rows.length) (hcl : Closed (wdOf t) rows accs) :
  Closed (wdOf t) (tidL (wdOf t) rows accs s (padT t)).2 (tidL (wdOf t) rows accs s (padT t)).1 ∧ 0 < (tidL (wdOf t) rows accs s (padT t)).2.length ∧ (tidL (wdOf t) rows accs s (padT t)).2.length ≤ 8 * rows.length + 1 := by
 have h := made_good (Ti.made hcl hs (fun c hc => Nat.lt_of_lt_of_le (fin_pad t ht2 c (by have := wd_le t ht2; omega)) (two_pow ht2).2))
 exact ⟨h.1, h.2.1, h.2.2.1⟩
set_option maxHeartbeats 4000000 in
theorem tidied (t s : Nat) (accs : List Bool) (rows : List (List Nat)) (ht1 : 0 < t) (ht2 : t < 4) (hs : s < rows.length) (hcl : Closed (wdOf t) rows accs) (hn : rows.length ≤ 100000) (w : World) (hG : Glob w) (AA : Option Addr) (ca : Nat) (AN : Option Addr) (cn : Nat)
  (hA : Kd.C Kd.bool w AA accs.length accs) (hN : Kd.C (Kd.slice 3 (Kd.int .i64)) w AN rows.length (rows.map ints)) (hca : accs.length ≤ ca) (hcn : rows.length ≤ cn) :
  Calls Tryd.prog 63 #[.agg #[.int .i64 (t : Int), .int .i64 (s : Int), .slice AA accs.length ca, .slice AN rows.length cn]] w (Gives (toldR (t : Int) (tidL (wdOf t) rows accs s (padT t)).1 ((tidL (wdOf t) rows accs s (padT t)).2.map ints)) w) := by
 obtain ⟨hg1, hg2, hg3⟩ := tid_good (s := s) ht2 hs hcl
 have hwd := wd_le t ht2
 have htc := fun W (hb : Below w.heap.size w W) => tidy_calls t s accs rows ht1 ht2 hs hcl hn W (glob_below hG hb) AA ca AN cn (Kd.C_below hA hb) (Kd.C_below hN hb) hca hcn
 obtain ⟨M, hM⟩ : ∃ M, tidL (wdOf t) rows accs s (padT t) = M := ⟨_, rfl⟩
 rw [hM] at hg1 hg2 hg3 htc ⊢
 have hlen := hg1.len
 have hwide := hg1.wide
 clear hM hcl hA hN hG hg1
 have htq := Aside0.mk htc
 have hb0 := below_alloc (below_alloc (Below.refl w.heap.size w) (.cells #[.int .i64 (t : Int), .int .i64 (s : Int), .slice AA accs.length ca, .slice AN rows.length cn] 66)) (.cells #[.int .i64 0, .int .i64 0, .slice none 0 0, .slice none 0 0] 27)
 have bR : ((w.alloc (.cells #[.int .i64 (t : Int), .int .i64 (s : Int), .slice AA accs.length ca, .slice AN rows.length cn] 66)).alloc (.cells #[.int .i64 0, .int .i64 0, .slice none 0 0, .slice none 0 0] 27)).heap[w.heap.size + 1]? = some (.cells #[.int .i64 0, .int .i64 0, .slice none 0 0, .slice none 0 0] 27 (0, 0)) := blk_at _ _ _ (by simp)
 clear htc
 by_cases hc : M.1.length ≤ 150
 ·have hlq := Aside0.mk hlen
  have hwq := Aside0.mk hwide
  have e : toldR (t : Int) M.1 (M.2.map ints) = ⟨(t : Int), 0, M.1, M.2.map ints, 0⟩ := if_pos hc
  rw [e]
  clear e hlen hwide
  go_enter Tryd.func63, Tryd.ntmps63
  go_wp2_with (first
   | (go_at_call 84; go_loud (
     with_reducible refine (htq.out _ hb0).mono ?_
     rintro e w2 ⟨vA, vN, rfl, q2, q3, hb2⟩
     obtain ⟨B2, d2, e2, hd2, hC2⟩ := Kd.R_reads q2
     subst e2
     obtain ⟨B3, d3, e3, hd3, hC3⟩ := Kd.R_reads q3
     rw [List.length_map] at e3 hC3
     subst e3
     have hB2 := below_step hb0 hb2))
   | (go_at_call 95; go_loud (
     have q := Ro.relationOf (t : Int) M.1 (M.2.map ints) (by have := hlq.out; omega) hc (by rw [List.length_map]; have := hlq.out; omega) (by
      intro r hr
      obtain ⟨x, hx, rfl⟩ := List.mem_map.1 hr
      rw [ints_length, hwq.out x hx]
      omega) w2 B2 d2 B3 d3 hC2 (by rw [List.length_map]; exact hC3)
     rw [List.length_map] at q
     with_reducible refine q.mono ?_
     rintro e w3 ⟨A2, c2, A3, c3, rfl, hR, hb3⟩
     have b0 := blk_below (blk_below bR hb2) hb3
     have hB3 := below_step hB2 hb3
     have e0 : w3.cell? ⟨w.heap.size + 1, 0, none⟩ = some (.int .i64 0) := (blk_cell b0 0).trans rfl
     have e1 : w3.cell? ⟨w.heap.size + 1, 1, none⟩ = some (.int .i64 0) := (blk_cell b0 1).trans rfl
     have e2 : w3.cell? ⟨w.heap.size + 1, 2, none⟩ = some (.slice none 0 0) := (blk_cell b0 2).trans rfl
     have e3 : w3.cell? ⟨w.heap.size + 1, 3, none⟩ = some (.slice none 0 0) := (blk_cell b0 3).trans rfl
     have f0 : w3.frozen? ⟨w.heap.size + 1, 0, none⟩ = false := blk_frozen b0 0
     have f1 : w3.frozen? ⟨w.heap.size + 1, 1, none⟩ = false := blk_frozen b0 1
     have f2 : w3.frozen? ⟨w.heap.size + 1, 2, none⟩ = false := blk_frozen b0 2
     have f3 : w3.frozen? ⟨w.heap.size + 1, 3, none⟩ = false := blk_frozen b0 3)))
  have b1 := blk_put b0 0 (.int .i64 (t : Int)) rfl
  have b2 := blk_put b1 1 (.int .i64 0) rfl
  have b3 := blk_put b2 2 (.slice A2 M.1.length c2) rfl
  have b4 := blk_put b3 3 (.slice A3 M.2.length c3) rfl
  refine bodyPost_ret (results_ct rfl _ _ (w.heap.size + 1) 27 #[.int .i64 (t : Int), .int .i64 0, .slice A2 M.1.length c2, .slice A3 M.2.length c3] (0, 0) _ rfl b4 Tryd.underlying27 rfl (by kernel_rfl)) rfl ⟨A2, c2, A3, c3, by rw [List.length_map]; rfl, ⟨?_, ?_⟩, ?_⟩
  ·have hR2 := hR.r2
   exact Kd.R_lower (Kd.R_set (Kd.R_set (Kd.R_set (Kd.R_set hR2 b0 (by decide) 0 _) b1 (by decide) 1 _) b2 (by decide) 2 _) b3 (by decide) 3 _) (Below.size hB2)
  ·have hR3 := hR.r3
   exact Kd.S_lower (Kd.S_set (Kd.S_set (Kd.S_set (Kd.S_set hR3 b0 (by decide) 0 _) b1 (by decide) 1 _) b2 (by decide) 2 _) b3 (by decide) 3 _) (Below.size hB2)
  ·exact (((hB3.setCell (by simp) _).setCell (by simp) _).setCell (by simp) _).setCell (by simp) _
 ·have e : toldR (t : Int) M.1 (M.2.map ints) = bad 3 := if_neg hc
  rw [e]
  clear e hlen hwide
  go_enter Tryd.func63, Tryd.ntmps63
  go_wp2_with (first
   | (go_at_call 84; go_loud (
     with_reducible refine (htq.out _ hb0).mono ?_
     rintro e w2 ⟨vA, vN, rfl, q2, q3, hb2⟩
     obtain ⟨B2, d2, e2, hd2, hC2⟩ := Kd.R_reads q2
     subst e2
     obtain ⟨B3, d3, e3, hd3, hC3⟩ := Kd.R_reads q3
     rw [List.length_map] at e3 hC3
     subst e3
     have hB2 := below_step hb0 hb2))
   | (go_at_call 95; go_loud (
     with_reducible refine (Ro.relationOf_big (t : Int) M.1.length M.2.length (by omega) w2 B2 d2 B3 d3).mono ?_
     rintro e w3 ⟨rfl, hb3⟩
     have b0 := blk_below (blk_below bR hb2) hb3
     have hB3 := below_step hB2 hb3
     have e0 : w3.cell? ⟨w.heap.size + 1, 0, none⟩ = some (.int .i64 0) := (blk_cell b0 0).trans rfl
     have e1 : w3.cell? ⟨w.heap.size + 1, 1, none⟩ = some (.int .i64 0) := (blk_cell b0 1).trans rfl
     have e2 : w3.cell? ⟨w.heap.size + 1, 2, none⟩ = some (.slice none 0 0) := (blk_cell b0 2).trans rfl
     have e3 : w3.cell? ⟨w.heap.size + 1, 3, none⟩ = some (.slice none 0 0) := (blk_cell b0 3).trans rfl
     have f0 : w3.frozen? ⟨w.heap.size + 1, 0, none⟩ = false := blk_frozen b0 0
     have f1 : w3.frozen? ⟨w.heap.size + 1, 1, none⟩ = false := blk_frozen b0 1
     have f2 : w3.frozen? ⟨w.heap.size + 1, 2, none⟩ = false := blk_frozen b0 2
     have f3 : w3.frozen? ⟨w.heap.size + 1, 3, none⟩ = false := blk_frozen b0 3)))
  have b1 := blk_put b0 0 (.int .i64 0) rfl
  have b2 := blk_put b1 1 (.int .i64 0) rfl
  have b3 := blk_put b2 2 (.slice none 0 0) rfl
  have b4 := blk_put b3 3 (.slice none 0 0) rfl
  refine bodyPost_ret (results_ct rfl _ _ (w.heap.size + 1) 27 #[.int .i64 0, .int .i64 0, .slice none 0 0, .slice none 0 0] (0, 0) _ rfl b4 Tryd.underlying27 rfl (by kernel_rfl)) rfl (gives_bad rfl ?_)
  exact (((hB3.setCell (by simp) _).setCell (by simp) _).setCell (by simp) _).setCell (by simp) _
set_option maxHeartbeats 4000000 in
/-- The reference's: a tidy relation that must not have too many states. -/
theorem told (t : Int) (a : List Bool) (b : List (List Int)) (w : World) (A2 : Option Addr) (c2 : Nat) (A3 : Option Addr) (c3 : Nat) (N : Nat) (hNw : N ≤ w.heap.size) (w0 : World) (hw0 : w0.heap.size = N) (hb : Below N w0 w) (hR : Rel w N (fun _ => True) A2 c2 a A3 c3 b) :
  Calls Tryd.prog 55 #[.agg #[.int .i64 t, .int .i64 0, .slice A2 a.length c2, .slice A3 b.length c3]] w (fun e w' => Gives (toldR t a b) w0 e w' ∧ Below w.heap.size w w') := by
 subst hw0
 have hszz : w0.heap.size ≤ w.heap.size + 1 := by omega
 have m2 : ((w.alloc (.cells #[.int .i64 t, .int .i64 0, .slice A2 a.length c2, .slice A3 b.length c3] 27)).alloc (.cells #[.int .i64 0, .int .i64 0, .slice none 0 0, .slice none 0 0] 27)).cell? ⟨w.heap.size, 2, none⟩ = some (.slice A2 a.length c2) := (blk_cell (blk_alloc (blk_new w (.cells #[.int .i64 t, .int .i64 0, .slice A2 a.length c2, .slice A3 b.length c3] 27)) (.cells #[.int .i64 0, .int .i64 0, .slice none 0 0, .slice none 0 0] 27)) 2).trans rfl
 by_cases hc : a.length ≤ 150
 ·have e : toldR t a b = ⟨t, 0, a, b, 0⟩ := if_pos hc
  rw [e]
  have hlt : ((150 : Int) < (a.length : Int)) = False := eq_false (by omega)
  have hb0 := below_alloc (below_alloc (Below.refl w.heap.size w) (.cells #[.int .i64 t, .int .i64 0, .slice A2 a.length c2, .slice A3 b.length c3] 27)) (.cells #[.int .i64 t, .int .i64 0, .slice A2 a.length c2, .slice A3 b.length c3] 27)
  go_enter Tryd.func55, Tryd.ntmps55
  go_wp2_with fail
  refine bodyPost_ret (results_ct rfl _ _ (w.heap.size + 1) 27 #[.int .i64 t, .int .i64 0, .slice A2 a.length c2, .slice A3 b.length c3] (0, 0) _ rfl (blk_at _ _ _ (by simp)) Tryd.underlying27 rfl (by kernel_rfl)) rfl ⟨⟨A2, c2, A3, c3, rfl, hR.below hb0, hb.trans (hb0.mono hNw)⟩, hb0⟩
 ·have e : toldR t a b = bad 3 := if_neg hc
  rw [e]
  have hlt : ((150 : Int) < (a.length : Int)) = True := eq_true (by omega)
  have hb0 := below_alloc (below_alloc (Below.refl w.heap.size w) (.cells #[.int .i64 t, .int .i64 0, .slice A2 a.length c2, .slice A3 b.length c3] 27)) (.cells #[.int .i64 0, .int .i64 0, .slice none 0 0, .slice none 0 0] 27)
  go_enter Tryd.func55, Tryd.ntmps55
  go_wp2_with fail
  refine bodyPost_ret (results_ct rfl _ _ (w.heap.size + 1) 27 #[.int .i64 0, .int .i64 0, .slice none 0 0, .slice none 0 0] (0, 0) _ rfl (blk_at _ _ _ (by simp)) Tryd.underlying27 rfl (by kernel_rfl)) rfl ⟨gives_bad rfl (hb.trans (hb0.mono hNw)), hb0⟩
end Go.Proofs.YtnjdkhnepmmfgaaDoor.Tr
namespace Go.Proofs.YtnjdkhnepmmfgaaDoor.Bld
set_option linter.unusedVariables false
set_option linter.unusedSimpArgs false
open Go.RowKit Go.Proofs.YtnjdkhnepmmfgaaDoorW.PrintWords Go.Proofs.YtnjdkhnepmmfgaaDoorW.PrintLast Go.Proofs.YtnjdkhnepmmfgaaDoorW.PrintMore Kp Mg Mk Rg
/-- w0: the world ahead of the building; x: the block of the row that is made. -/
structure B (w0 : World) (u s : Int) (gX : Nat) (x : Option Nat) (vA : Value) (bs : List Bool) (vN : Value) (rws : List (List Nat)) (W : World) : Prop where
 bX : W.heap[gX]? = some (.cells #[.int .i64 u, .int .i64 s, vA, vN] 27 (0, 0))
 acc : Kd.R Kd.bool 4 W w0.heap.size (fun _ => True) vA bs
 nxt : Kd.R Row 75 W w0.heap.size (fun k => True ∧ some k ≠ x) vN (rws.map ints)
 bel : Below w0.heap.size w0 W
 le : w0.heap.size ≤ gX
/-- .. while a row is made. -/
structure Br (w0 : World) (u s : Int) (gX : Nat) (vr : Value) (r : List Nat) (vA : Value) (bs : List Bool) (vN : Value) (rws : List (List Nat)) (W : World) : Prop where
 g : B w0 u s gX vr.ownBlock vA bs vN rws W
 row : Kd.R (Kd.int .i64) 2 W w0.heap.size (fun k => True ∧ some k ≠ vN.ownBlock) vr (ints r)
section
variable {w0 : World} {u s : Int} {gX : Nat} {x : Option Nat} {vA vN vr : Value} {bs : List Bool} {rws : List (List Nat)} {r : List Nat} {W W' : World}
theorem B.start (hX : W.heap[gX]? = some (.cells #[.int .i64 u, .int .i64 s, .slice none 0 0, .slice none 0 0] 27 (0, 0))) (hb : Below w0.heap.size w0 W) (hl : w0.heap.size ≤ gX) : B w0 u s gX none (.slice none 0 0) [] (.slice none 0 0) [] W :=
 ⟨hX, Kd.R_nil _ _ _ _ _, Kd.R_nil _ _ _ _ _, hb, hl⟩
theorem B.step (h : B w0 u s gX x vA bs vN rws W) (hb : Below W.heap.size W W') : B w0 u s gX x vA bs vN rws W' := ⟨blk_below h.bX hb, Kd.R_below h.acc hb, Kd.R_below h.nxt hb, below_step h.bel hb, h.le⟩
theorem Br.step (h : Br w0 u s gX vr r vA bs vN rws W) (hb : Below W.heap.size W W') : Br w0 u s gX vr r vA bs vN rws W' := ⟨h.g.step hb, Kd.R_below h.row hb⟩
/-- An empty row is begun. -/
theorem B.born (h : B w0 u s gX none vA bs vN rws W) : Br w0 u s gX (.slice (some ⟨W.heap.size, 0, none⟩) 0 0) [] vA bs vN rws (W.alloc (.cells #[] 2)) := by
 have hb := below_alloc (Below.refl W.heap.size W) (.cells #[] 2)
 have hz : SR (W.alloc (.cells #[] 2)) W.heap.size (.slice (some ⟨W.heap.size, 0, none⟩) 0 0) (ints []) := sr_zero W _ (Nat.le_refl _)
 refine ⟨⟨blk_below h.bX hb, Kd.R_below h.acc hb, ?_, below_step h.bel hb, h.le⟩, ?_⟩
 ·exact Kd.R_below (Kd.R_mono (Kd.R_bound h.nxt) (fun k hk => ⟨trivial, fun e => by have e2 : k = W.heap.size := Option.some.inj e; have := hk.2.2.1; omega⟩)) hb
 ·exact Kd.R_lower (Kd.R_mono (Kd.R_bound hz) (fun k hk => ⟨trivial, fun e => by have := Kd.R_lt h.nxt k e.symm; have := hk.2.1; omega⟩)) (Below.size h.bel)
/-- A number is put behind the row. -/
theorem Br.more (h : Br w0 u s gX vr r vA bs vN rws W) {v1 : Value} {r' : List Nat} (hg : W.grownBy W' vr.ownBlock) (hat : v1.ownBlock = vr.ownBlock ∨ ∃ b, v1.ownBlock = some b ∧ W.heap.size ≤ b) (hR : Kd.R (Kd.int .i64) 2 W' w0.heap.size (fun k => True ∧ some k ≠ vN.ownBlock) v1 (ints r')) (hb : Below w0.heap.size w0 W') : Br w0 u s gX v1 r' vA bs vN rws W' := by
 have hk := Keep.grown hg
 have o : ∀ E : List Nat, (∀ q ∈ E, q ≠ 2) → Off W vr.ownBlock E := fun E hE => Off.row h.row hE
 exact ⟨⟨hk.obj h.g.bX (off_ne h.g.bX (o _ (by decide))), R_off h.g.acc hk (o _ (by decide)), Kd.R_after h.g.nxt hg hat, hb, h.g.le⟩, hR⟩
/-- A mark is put behind the others. -/
theorem Br.acc (h : Br w0 u s gX vr r vA bs vN rws W) {v1 : Value} {bs' : List Bool} (hg : W.grownBy W' vA.ownBlock) (hR : Kd.R Kd.bool 4 W' w0.heap.size (fun _ => True) v1 bs') (hb : Below w0.heap.size w0 W') :
  W'.heap[gX]? = some (.cells #[.int .i64 u, .int .i64 s, vA, vN] 27 (0, 0)) ∧ Br w0 u s gX vr r v1 bs' vN rws (W'.setCell ⟨gX, 2, none⟩ v1) := by
 have hk := Keep.grown hg
 have o : ∀ E : List Nat, (∀ q ∈ E, q ≠ 4) → Off W vA.ownBlock E := fun E hE => Off.row h.g.acc hE
 have bX := hk.obj h.g.bX (off_ne h.g.bX (o _ (by decide)))
 refine ⟨bX, ?_⟩
 have hs := Keep.set W' ⟨gX, 2, none⟩ v1
 have p : ∀ E : List Nat, (∀ q ∈ E, q ≠ 27) → Off W' (some gX) E := fun E hE => Off.cells bX hE
 exact ⟨⟨blk_put bX 2 v1 rfl, R_off hR hs (p _ (by decide)), R_off (R_off h.g.nxt hk (o _ (by decide))) hs (p _ (by decide)), hb.setCell h.g.le _, h.g.le⟩, R_off (R_off h.row hk (o _ (by decide))) hs (p _ (by decide))⟩
/-- The row is put behind the others. -/
theorem Br.nxt (h : Br w0 u s gX vr r vA bs vN rws W) {v1 : Value} {rws' : List (List Nat)} (hg : W.grownBy W' vN.ownBlock) (hR : Kd.R Row 75 W' w0.heap.size (fun _ => True) v1 (rws'.map ints)) (hb : Below w0.heap.size w0 W') :
  W'.heap[gX]? = some (.cells #[.int .i64 u, .int .i64 s, vA, vN] 27 (0, 0)) ∧ B w0 u s gX none vA bs v1 rws' (W'.setCell ⟨gX, 3, none⟩ v1) := by
 have hk := Keep.grown hg
 have o : ∀ E : List Nat, (∀ q ∈ E, q ≠ 75) → Off W vN.ownBlock E := fun E hE => Off.row h.g.nxt hE
 have bX := hk.obj h.g.bX (off_ne h.g.bX (o _ (by decide)))
 refine ⟨bX, ?_⟩
 have hs := Keep.set W' ⟨gX, 3, none⟩ v1
 have p : ∀ E : List Nat, (∀ q ∈ E, q ≠ 27) → Off W' (some gX) E := fun E hE => Off.cells bX hE
 exact ⟨blk_put bX 3 v1 rfl, R_off (R_off h.g.acc hk (o _ (by decide))) hs (p _ (by decide)), Kd.R_mono (R_off hR hs (p _ (by decide))) (fun _ hk => ⟨trivial, by simp⟩), hb.setCell h.g.le _, h.g.le⟩
end
end Go.Proofs.YtnjdkhnepmmfgaaDoor.Bld
namespace Go.Proofs.YtnjdkhnepmmfgaaDoor.Op
set_option linter.unusedVariables false
set_option linter.unusedSimpArgs false
open Tdy Td Mg Rg Ti Tf Tid
section
variable {t s s' : Nat} {rows rows' : List (List Nat)} {accs accs' : List Bool}
theorem made_t (ht : t < 4) (hs : s < rows.length) (hcl : Closed (wdOf t) rows accs) : Made (wdOf t) rows accs s (padT t) (tidL (wdOf t) rows accs s (padT t)).1 (tidL (wdOf t) rows accs s (padT t)).2 :=
 Ti.made hcl hs (fun c hc => Nat.lt_of_lt_of_le (fin_pad t ht c (by have := wd_le t ht; omega)) (two_pow ht).2)
/-- Two machines that take the same right words are made the same. -/
theorem tid_right (ht : t < 4) (hs : s < rows.length) (hcl : Closed (wdOf t) rows accs) (hs' : s' < rows'.length) (hcl' : Closed (wdOf t) rows' accs')
  (h : Same (wdOf t) (right (mach rows accs) (okC (padT t)) (padT t)) (right (mach rows' accs') (okC (padT t)) (padT t)) (some (s, 0)) (some (s', 0))) : tidL (wdOf t) rows accs s (padT t) = tidL (wdOf t) rows' accs' s' (padT t) := by
 obtain ⟨e1, e2⟩ := made_eq (made_t ht hs hcl) (made_t ht hs' hcl') h
 exact Prod.ext e1 e2
theorem same_right {σ τ : Type} {w : Nat} {A : Aut σ} {B : Aut τ} {ok : Nat → Nat → Bool} {pads : Nat → Nat} {x : σ} {y : τ} (e : Nat) (h : Same w A B x y) : Same w (right A ok pads) (right B ok pads) (some (x, e)) (some (y, e)) :=
 right_bisim (fun x y _ => Same w A B x y) (fun _ _ _ h => h.acc) (fun _ _ _ h c hc _ => h.step hc) h
/-- .. and so are those that take the same words. -/
theorem tid_same (ht : t < 4) (hs : s < rows.length) (hcl : Closed (wdOf t) rows accs) (hs' : s' < rows'.length) (hcl' : Closed (wdOf t) rows' accs') (h : Same (wdOf t) (mach rows accs) (mach rows' accs') s s') : tidL (wdOf t) rows accs s (padT t) = tidL (wdOf t) rows' accs' s' (padT t) :=
 tid_right ht hs hcl hs' hcl' (same_right 0 h)
end
/-! ### pairs of states -/
/-- The pairs that are met; 'op' tells from both marks whether a pair accepts. -/
def nxtQ (r1 r2 : List (List Nat)) (p : Int × Int) (c : Nat) : Int × Int := ((((r1.getD p.1.toNat []).getD c 0 : Nat) : Int), (((r2.getD p.2.toNat []).getD c 0 : Nat) : Int))
def accQ (op : Bool → Bool → Bool) (a1 a2 : List Bool) (p : Int × Int) : Bool := op (a1.getD p.1.toNat false) (a2.getD p.2.toNat false)
def InQ (n1 n2 : Nat) (p : Int × Int) : Prop := ∃ x y : Nat, p = ((x : Int), (y : Int)) ∧ x < n1 ∧ y < n2
section
variable {w : Nat} {r1 r2 : List (List Nat)} {a1 a2 : List Bool}
theorem inQ_next (h1 : Closed w r1 a1) (h2 : Closed w r2 a2) {p : Int × Int} (h : InQ r1.length r2.length p) {c : Nat} (hc : c < w) : InQ r1.length r2.length (nxtQ r1 r2 p c) := by
 obtain ⟨x, y, rfl, hx, hy⟩ := h
 exact ⟨_, _, rfl, h1.step hx hc, h2.step hy hc⟩
theorem pairs_end (h1 : Closed w r1 a1) (h2 : Closed w r2 a2) (s1 : 0 < r1.length) (s2 : 0 < r2.length) : ∃ f l rws, bfs id (nxtQ r1 r2) (List.range w) 0 f 0 [((0 : Int), (0 : Int))] [] = some (some (l, rws)) ∧ l.length ≤ r1.length * r2.length ∧ Closed w rws (l.map (fun p => p.1 == p.1)) ∧ 0 < rws.length ∧ rws.length = l.length ∧ Done id (nxtQ r1 r2) (List.range w) l rws ∧ l[0]? = some (0, 0) ∧ ∀ p ∈ l, InQ r1.length r2.length p := by
 have hs : InQ r1.length r2.length ((0 : Int), (0 : Int)) := ⟨0, 0, rfl, s1, s2⟩
 have hn : ∀ p, InQ r1.length r2.length p → ∀ c ∈ List.range w, InQ r1.length r2.length (nxtQ r1 r2 p c) := fun p hp c hc => inQ_next h1 h2 hp (List.mem_range.1 hc)
 have hU : ∀ p, InQ r1.length r2.length p → id p ∈ (List.range (r1.length * r2.length)).map (fun x => (((x / r2.length : Nat) : Int), ((x % r2.length : Nat) : Int))) := by
  rintro p ⟨x, y, rfl, hx, hy⟩
  refine List.mem_map.2 ⟨x * r2.length + y, List.mem_range.2 ?_, ?_⟩
  ·calc x * r2.length + y < x * r2.length + r2.length := by omega
    _ = (x + 1) * r2.length := by rw [Nat.add_mul, Nat.one_mul]
    _ ≤ r1.length * r2.length := Nat.mul_le_mul_right _ hx
  ·have e1 : (x * r2.length + y) / r2.length = x := by rw [Nat.mul_comm, Nat.mul_add_div (by omega), Nat.div_eq_of_lt hy, Nat.add_zero]
   have e2 : (x * r2.length + y) % r2.length = y := by rw [Nat.mul_comm, Nat.mul_add_mod, Nat.mod_eq_of_lt hy]
   rw [e1, e2]
   rfl
 obtain ⟨R, hR⟩ := bfs_end (key := (id : Int × Int → Int × Int)) (nxt := nxtQ r1 r2) (cols := List.range w) (limit := 0) (Q := InQ r1.length r2.length) hU hn (r1.length * r2.length + 1) 0 [((0 : Int), (0 : Int))] [] (by simp) (by simp) (List.pairwise_singleton _ _) (fun p hp => by rw [List.mem_singleton.1 hp]; exact hs)
 cases R with
 | none => exact absurd hR (bfs_zero _ _ _ _)
 | some R =>
  obtain ⟨l, rws⟩ := R
  obtain ⟨hd, m, hm⟩ := bfs_done _ 0 [((0 : Int), (0 : Int))] [] l rws hR (Nat.zero_le _) rfl (List.pairwise_singleton _ _) (fun r hr => by cases hr) (fun i hi => by cases hi)
  have hall := bfs_all hn _ 0 _ _ l rws hR (fun p hp => by rw [List.mem_singleton.1 hp]; exact hs)
  have hle : l.length ≤ r1.length * r2.length := by
   have := nodup_le (l := l) (m := (List.range (r1.length * r2.length)).map (fun x => (((x / r2.length : Nat) : Int), ((x % r2.length : Nat) : Int)))) hd.apart (fun p hp => hU p (hall p hp))
   simpa using this
  exact ⟨_, l, rws, hR, hle, done_closed _ hd, by rw [hd.len, hm]; simp, hd.len, hd, by rw [hm]; rfl, hall⟩
/-! #### the reference's table of pairs -/
def pairX (r1 r2 : List (List Nat)) (w x : Nat) : List Nat := (List.range w).map fun c => ((r1.getD (x / r2.length) []).getD c 0) * r2.length + (r2.getD (x % r2.length) []).getD c 0
def rowsD (r1 r2 : List (List Nat)) (w : Nat) : List (List Nat) := (List.range (r1.length * r2.length)).map (pairX r1 r2 w)
def accsD (op : Bool → Bool → Bool) (a1 a2 : List Bool) : List Bool := (List.range (a1.length * a2.length)).map fun x => op (a1.getD (x / a2.length) false) (a2.getD (x % a2.length) false)
theorem two_lt {x y n1 n2 : Nat} (hx : x < n1) (hy : y < n2) : x * n2 + y < n1 * n2 := by
 calc x * n2 + y < x * n2 + n2 := by omega
  _ = (x + 1) * n2 := by rw [Nat.add_mul, Nat.one_mul]
  _ ≤ n1 * n2 := Nat.mul_le_mul_right _ hx
theorem two_div {x y n2 : Nat} (hy : y < n2) : (x * n2 + y) / n2 = x ∧ (x * n2 + y) % n2 = y := by
 refine ⟨by rw [Nat.mul_comm, Nat.mul_add_div (by omega), Nat.div_eq_of_lt hy, Nat.add_zero], by rw [Nat.mul_comm, Nat.mul_add_mod, Nat.mod_eq_of_lt hy]⟩
theorem rowsD_step (h1 : Closed w r1 a1) (h2 : Closed w r2 a2) {x y c : Nat} (hx : x < r1.length) (hy : y < r2.length) (hc : c < w) : ((rowsD r1 r2 w).getD (x * r2.length + y) []).getD c 0 = ((r1.getD x []).getD c 0) * r2.length + (r2.getD y []).getD c 0 := by
 obtain ⟨e1, e2⟩ := two_div (x := x) hy
 have hlt := two_lt hx hy
 unfold rowsD pairX
 simp [List.getD_eq_getElem?_getD, hlt, hc, e1, e2]
theorem rowsD_closed (op : Bool → Bool → Bool) (h1 : Closed w r1 a1) (h2 : Closed w r2 a2) : Closed w (rowsD r1 r2 w) (accsD op a1 a2) := by
 refine ⟨by simp [rowsD, accsD, h1.len, h2.len], ?_, ?_⟩
 ·intro r hr
  obtain ⟨x, _, rfl⟩ := List.mem_map.1 hr
  simp [pairX]
 ·intro r hr q hq
  obtain ⟨x, hx, rfl⟩ := List.mem_map.1 hr
  obtain ⟨c, hc, rfl⟩ := List.mem_map.1 hq
  have hx' := List.mem_range.1 hx
  have hc' := List.mem_range.1 hc
  have h0 : 0 < r2.length := by
   rcases Nat.eq_zero_or_pos r2.length with h | h
   ·rw [h, Nat.mul_zero] at hx'; omega
   ·exact h
  have e : (rowsD r1 r2 w).length = r1.length * r2.length := by simp [rowsD]
  rw [e]
  exact two_lt (h1.step (Nat.div_lt_of_lt_mul (by rw [Nat.mul_comm]; exact hx')) hc') (h2.step (Nat.mod_lt _ h0) hc')
theorem rowsD_same (op : Bool → Bool → Bool) (h1 : Closed w r1 a1) (h2 : Closed w r2 a2) {x y : Nat} (hx : x < r1.length) (hy : y < r2.length) : Same w (mach (rowsD r1 r2 w) (accsD op a1 a2)) (⟨nxtQ r1 r2, accQ op a1 a2⟩ : Aut (Int × Int)) (x * r2.length + y) ((x : Int), (y : Int)) := by
 refine Same.of (R := fun (z : Nat) (p : Int × Int) => ∃ x y : Nat, z = x * r2.length + y ∧ p = ((x : Int), (y : Int)) ∧ x < r1.length ∧ y < r2.length) ?_ ?_ ⟨x, y, rfl, rfl, hx, hy⟩
 ·rintro z p ⟨x, y, rfl, rfl, hx, hy⟩
  obtain ⟨e1, e2⟩ := two_div (x := x) hy
  have hlt := two_lt hx hy
  show (accsD op a1 a2).getD _ false = accQ op a1 a2 _
  unfold accsD accQ
  rw [← h1.len, ← h2.len]
  simp [List.getD_eq_getElem?_getD, hlt, e1, e2]
 ·rintro z p ⟨x, y, rfl, rfl, hx, hy⟩ c hc
  refine ⟨(r1.getD x []).getD c 0, (r2.getD y []).getD c 0, rowsD_step h1 h2 hx hy hc, ?_, h1.step hx hc, h2.step hy hc⟩
  simp [nxtQ]
end
end Go.Proofs.YtnjdkhnepmmfgaaDoor.Op
namespace Go.Proofs.YtnjdkhnepmmfgaaDoor.PL1
open Go.RowKit Go.Proofs.YtnjdkhnepmmfgaaDoorW.PrintWords Go.Proofs.YtnjdkhnepmmfgaaDoorW.PrintLast Go.Proofs.YtnjdkhnepmmfgaaDoorW.PrintMore
attribute [local go_sem] max2_int min2_int max_two min_two max_three min_three max_four min_four   -- for this text's walks alone
set_option linter.unusedVariables false
set_option linter.unusedSimpArgs false
def errW : Option Int → Value
 | none => .nilIface
 | some c => .iface 0 (.int .i64 c)
theorem errW_none : errW none = .nilIface := rfl
theorem errW_some (c : Int) : errW (some c) = .iface 0 (.int .i64 c) := rfl
theorem info2 : (Tryd.prog.info? 2).map (fun i => (i.zero, i.size, i.bytes)) = some (some (.int .i64 0), 1, 8) := by kernel_rfl
end Go.Proofs.YtnjdkhnepmmfgaaDoor.PL1
namespace Go.Proofs.YtnjdkhnepmmfgaaDoor.PL1
open Go.RowKit Go.Proofs.YtnjdkhnepmmfgaaDoorW.PrintWords Go.Proofs.YtnjdkhnepmmfgaaDoorW.PrintLast Go.Proofs.YtnjdkhnepmmfgaaDoorW.PrintMore
attribute [local go_sem] max2_int min2_int max_two min_two max_three min_three max_four min_four   -- for this text's walks alone
set_option linter.unusedVariables false
set_option linter.unusedSimpArgs false
/-! ### laws_toInt64S: function 69 -/
def laws_toInt64S.l0 : Nat → List Int → List Int → Int → Option (List Int)
 | 0, _, _, _ => none
 | k + 1, x0, x3, x4 => if x4 < (x0.length : Int) then (if 0 ≤ x4 then (if x4 < (x3.length : Int) then (laws_toInt64S.l0 k x0 (x3.set (x4 : Int).toNat (rd x0 x4)) (wrap64 (x4 + 1))) else (none)) else (none)) else (some x3)
def laws_toInt64S.f (k : Nat) (l0 : List Int) : Option (List Int) := if 0 ≤ (l0.length : Int) then (if ((l0.length : Int) : Int).toNat ≤ 35184372088832 then (laws_toInt64S.l0 k l0 (List.replicate ((l0.length : Int) : Int).toNat 0) 0) else (none)) else (none)
set_option maxHeartbeats 8000000 in
set_option maxRecDepth 100000 in
theorem laws_toInt64S.calls (k : Nat) (A0 : Option Addr) (c0 : Nat) (l0 : List Int) (r : List Int) (w : World) (hr0 : Kd.C (Kd.int .i64) w A0 l0.length l0) (hc0 : l0.length ≤ c0) (h : laws_toInt64S.f k l0 = some r) :
  Calls Tryd.prog 69 #[.slice A0 l0.length c0] w fun e w' => ∃ v0_ : Value, e = .returned (v0_) ∧ Kd.R (Kd.int .i64) 2 w' w.heap.size (fun _ => True) v0_ r ∧ Below w.heap.size w w' := by
 have HR0 := Aside0.mk hr0
 have HC0 := Aside0.mk hc0
 clear hr0 hc0
 have HB := Aside0.mk (Below.refl w.heap.size w)
 have H : (if 0 ≤ (l0.length : Int) then (if ((l0.length : Int) : Int).toNat ≤ 35184372088832 then (laws_toInt64S.l0 k l0 (List.replicate ((l0.length : Int) : Int).toNat 0) 0) else (none)) else (none)) = some r := h
 clear h
 by_cases c2 : 0 ≤ (l0.length : Int)
 ·rw [if_pos c2] at H
  have c2b0 := eq_true c2
  have c2b1 : decide (0 ≤ (l0.length : Int)) = true := decide_eq_true c2
  clear c2
  by_cases c3 : ((l0.length : Int) : Int).toNat ≤ 35184372088832
  ·rw [if_pos c3] at H
   have c3b0 := eq_true c3
   have c3b1 : decide (((l0.length : Int) : Int).toNat ≤ 35184372088832) = true := decide_eq_true c3
   clear c3
   obtain ⟨y101, hy101⟩ : ∃ y_ : List Int, y_ = (List.replicate ((l0.length : Int) : Int).toNat 0) := ⟨_, rfl⟩
   replace H : (laws_toInt64S.l0 k l0 y101 0) = some r := by first | (rw [hy101]; with_reducible exact H) | (have H2_ := (Option.bind_some _ _).symm.trans H; rw [hy101]; with_reducible exact H2_) | (have H2_ := (Option.bind_some _ _).symm.trans H; with_reducible exact H2_) | with_reducible exact H | (rw [hy101]; exact H) | exact H
   have Ny101 := Aside0.mk hy101
   clear hy101
   have H' := Aside0.mk H
   clear H
   go_enter Tryd.func69, Tryd.ntmps69
   go_wp2_with (first | ((with_reducible refine gate_dst (N := 7) rfl ?_); refine Kd.R_make (Kd.int .i64) _ 2 rfl (N := 7) rfl 75 _ _ rfl (l0.length : Int) rfl rfl Tryd.underlying75 (.int .i64 0) 8 info2 rfl (by decide) (by omega) 0 (ok := fun _ => True) (okp := fun _ => True) rfl (fun _ hk => hk) trivial (of_decide_eq_true (by first | (with_reducible assumption) | assumption)) (Nat.le_trans (Nat.mul_le_mul_right _ (of_decide_eq_true (by first | (with_reducible assumption) | assumption) : (l0.length : Int).toNat ≤ 35184372088832)) (by omega)) (Below.refl _ _) (Nat.le_refl _) ?_; intro v102 w4 ho5 hb hg_ hnew_; clear hg_ hnew_; (first | rw [← Ny101.out] at ho5 | (simp only [Int.reduceToNat] at ho5; rw [← Ny101.out] at ho5)); have n0_ := Aside0.mk (Kd.R_lower ho5 (below_size (by repeat (first | (with_reducible first | exact HB.out | apply below_alloc | apply pw_below_drewN | apply below_drew1) | exact HB.out)))); have n1_ := Aside0.mk (below_step (by repeat (first | (with_reducible first | exact HB.out | apply below_alloc | apply pw_below_drewN | apply below_drew1) | exact HB.out)) hb); clear HB; have HO103 := n0_; have HB := n1_; clear n0_ n1_; clear hb ho5))
   go_loopg [4] k (fun kq v4 w' => ∃ (x3_1 : List Int) (x4_1 : Int), v4 = .int .i64 x4_1 ∧ Aside0 (laws_toInt64S.l0 kq l0 x3_1 x4_1 = some r) ∧ Aside0 (kq ≤ k) ∧ Aside0 (Kd.R (Kd.int .i64) 2 w' w.heap.size (fun _ => True) v102 x3_1) ∧ Aside0 (Below w.heap.size w w'))
   case atStart => exact ⟨(y101), (0), (by first | rfl | (simp; done) | (simp [*]; done) | (simp [wrap64]; done)), H', ⟨Nat.le_refl _⟩, ⟨by (with_reducible repeat (first | apply Kd.R_alloc | apply Kd.R_drewN | apply Kd.R_drew)); exact HO103.out⟩, ⟨by repeat (first | (with_reducible first | exact HB.out | apply below_alloc | apply pw_below_drewN | apply below_drew1) | exact HB.out)⟩⟩
   case round =>
    clear H'
    try clear c2
    try clear c2b0
    try clear c2b1
    try clear p2
    try clear c3
    try clear c3b0
    try clear c3b1
    obtain ⟨x3_1, x4_1, rfl, HA, HK1, HO_3, HB⟩ := hrel
    cases gk with
    | zero => exact absurd HA.out (by simp [laws_toInt64S.l0])
    | succ k1 =>
     have H := HA.out
     clear HA
     simp only [laws_toInt64S.l0] at H
     by_cases c6 : x4_1 < (l0.length : Int)
     ·rw [if_pos c6] at H
      have c6b0 : decide (x4_1 < (l0.length : Int)) = true := decide_eq_true c6
      clear c6
      by_cases c7 : 0 ≤ x4_1
      ·rw [if_pos c7] at H
       have c7b0 : decide (0 ≤ x4_1) = true := decide_eq_true c7
       clear c7
       by_cases c8 : x4_1 < (x3_1.length : Int)
       ·rw [if_pos c8] at H
        have c8b0 : decide (x4_1 < (x3_1.length : Int)) = true := decide_eq_true c8
        clear c8
        obtain ⟨y105, hy105⟩ : ∃ y_ : List Int, y_ = (x3_1.set (x4_1 : Int).toNat (rd l0 x4_1)) := ⟨_, rfl⟩
        replace H : (laws_toInt64S.l0 k1 l0 y105 (wrap64 (x4_1 + 1))) = some r := by first | (rw [hy105]; with_reducible exact H) | (have H2_ := (Option.bind_some _ _).symm.trans H; rw [hy105]; with_reducible exact H2_) | (have H2_ := (Option.bind_some _ _).symm.trans H; with_reducible exact H2_) | with_reducible exact H | (rw [hy105]; exact H) | exact H
        have Ny105 := Aside0.mk hy105
        clear hy105
        have H' := Aside0.mk H
        clear H
        have p104 : 0 ≤ (x4_1 : Int) := of_decide_eq_true (by first | (with_reducible assumption) | assumption)
        have q104 : x4_1 < (l0.length : Int) := of_decide_eq_true (by first | (with_reducible assumption) | assumption)
        obtain ⟨ad104, e104, hx104_0⟩ := Kd.at_int HR0.out x4_1 p104 q104
        cases e104
        replace hx104_0 := (HB.out.cell (World.block_lt_of_cell? w _ hx104_0)).trans hx104_0
        replace p104 := eq_true p104
        replace q104 := eq_true q104
        have p9 : 0 ≤ (x4_1 : Int) := of_decide_eq_true (by first | (with_reducible assumption) | assumption)
        have q9 : (x4_1 : Int) < ((x3_1.length : Int) : Int) := of_decide_eq_true (by first | (with_reducible assumption) | assumption)
        obtain ⟨go9, co9, eo9, gb9, gl9, cl9, HG9⟩ := Kd.R_form HO_3.out (by omega)
        (first | cases eo9 | (injection eo9 with ea_ en_ ec_; (first | subst ea_ | (injection ea_ with ea_; subst ea_)); subst ec_; clear en_))
        have GB9 := Aside0.mk gb9
        have GG9 := Aside0.mk HG9
        clear gb9 gl9 HG9
        obtain ⟨hx9_0, hf9_0⟩ := Kd.R_celln 0 HO_3.out (x4_1 : Int) p9 q9
        replace p9 := eq_true p9
        replace q9 := eq_true q9
        have HP10 := Kd.R_putg HO_3.out (x4_1 : Int) (rd l0 x4_1)
        go_wp2_with (first | ((with_reducible refine gate_store (t := 2) (p := 20) rfl ?_); refine store_event (t := 2) (p := 20) (v := ?vo_w11) (w1 := (wr.setCell ⟨go9, (x4_1 : Int).toNat, none⟩ (.int .i64 (rd l0 x4_1)))) ?hg ?ho ?hn ?hr ?_; (case ho => rfl); (case hg => rfl); (case hn => rfl); (case hr => first | (go_simp; done) | (go_simp; rfl)); intro w11 hw; have hg : wr.grownBy w11 (some go9) := (by rw [hw]; exact HP10.2); have hp_ : Kd.R (Kd.int .i64) 2 w11 w.heap.size (fun _ => True) (.slice (some ⟨go9, 0, none⟩) x3_1.length co9) y105 := (by rw [hw, Ny105.out]; exact HP10.1); clear HP10; have n0_ := Aside0.mk (hp_); have n1_ := Aside0.mk ((by rw [hw]; exact below_set (HB.out) GB9.out : Below w.heap.size w w11)); clear HO_3; clear HB; have HO_3 := n0_; have HB := n1_; clear n0_ n1_; clear hg hw hp_))
        go_roundg k1
        case measure => have := HK1.out; omega
        case rel => exact ⟨(y105), (wrap64 (x4_1 + 1)), (by first | rfl | (simp; done) | (simp [*]; done) | (simp [wrap64]; done)), H', ⟨by have := HK1.out; omega⟩, ⟨by (with_reducible repeat (first | apply Kd.R_alloc | apply Kd.R_drewN | apply Kd.R_drew)); exact HO_3.out⟩, ⟨by repeat (first | (with_reducible first | exact HB.out | apply below_alloc | apply pw_below_drewN | apply below_drew1) | exact HB.out)⟩⟩
       ·rw [if_neg c8] at H
        exact absurd H (by simp)
      ·rw [if_neg c7] at H
       exact absurd H (by simp)
     ·rw [if_neg c6] at H
      have c6b0 : decide (x4_1 < (l0.length : Int)) = false := decide_eq_false c6
      clear c6
      obtain rfl := Option.some.inj H
      simp only [Option.some.injEq, Prod.mk.injEq] at H
      obtain ⟨rfl⟩ := H
      go_wp2
      go_ret
      exact ⟨_, by first | rfl | (simp [errW_none, errW_some] <;> rfl) | (simp [*, errW_none, errW_some] <;> rfl), by (with_reducible repeat (first | apply Kd.R_alloc | apply Kd.R_drewN | apply Kd.R_drew)); exact HO_3.out, by repeat (first | (with_reducible first | exact HB.out | apply below_alloc | apply pw_below_drewN | apply below_drew1) | exact HB.out)⟩
  ·rw [if_neg c3] at H
   exact absurd H (by simp)
 ·rw [if_neg c2] at H
  exact absurd H (by simp)
/-! ### laws_markInt64S: function 77 -/
def laws_markInt64S.l0 : Nat → List Int → Int → Int → Option (Int × List Int)
 | 0, _, _, _ => none
 | k + 1, x0, x1, x5 => if x5 < (x0.length : Int) then (if 0 ≤ x5 then (laws_markInt64S.l0 k (x0.set (x5 : Int).toNat x1) (wrap64 (x1 + 1)) (wrap64 (x5 + 1))) else (none)) else (some (x1, x0))
def laws_markInt64S.f (k : Nat) (l0 : List Int) (a1 : Int) : Option (Int × List Int) := laws_markInt64S.l0 k l0 a1 0
end Go.Proofs.YtnjdkhnepmmfgaaDoor.PL1
namespace Go.Proofs.YtnjdkhnepmmfgaaDoor.PL1
open Go.RowKit Go.Proofs.YtnjdkhnepmmfgaaDoorW.PrintWords Go.Proofs.YtnjdkhnepmmfgaaDoorW.PrintLast Go.Proofs.YtnjdkhnepmmfgaaDoorW.PrintMore
attribute [local go_sem] max2_int min2_int max_two min_two max_three min_three max_four min_four   -- for this text's walks alone
set_option linter.unusedVariables false
set_option linter.unusedSimpArgs false
end Go.Proofs.YtnjdkhnepmmfgaaDoor.PL1
namespace Go.Proofs.YtnjdkhnepmmfgaaDoor.PT2
open Go.RowKit Go.Proofs.YtnjdkhnepmmfgaaDoorW.PrintWords Go.Proofs.YtnjdkhnepmmfgaaDoorW.PrintLast Go.Proofs.YtnjdkhnepmmfgaaDoorW.PrintMore PB1 PL1
attribute [local go_sem] max2_int min2_int max_two min_two max_three min_three max_four min_four   -- for this text's walks alone
set_option linter.unusedVariables false
set_option linter.unusedSimpArgs false
def errW : Option Int → Value
 | none => .nilIface
 | some c => .iface 0 (.int .i64 c)
theorem errW_none : errW none = .nilIface := rfl
theorem errW_some (c : Int) : errW (some c) = .iface 0 (.int .i64 c) := rfl
end Go.Proofs.YtnjdkhnepmmfgaaDoor.PT2
namespace Go.Proofs.YtnjdkhnepmmfgaaDoor.PT2
open Go.RowKit Go.Proofs.YtnjdkhnepmmfgaaDoorW.PrintWords Go.Proofs.YtnjdkhnepmmfgaaDoorW.PrintLast Go.Proofs.YtnjdkhnepmmfgaaDoorW.PrintMore PB1 PL1
attribute [local go_sem] max2_int min2_int max_two min_two max_three min_three max_four min_four   -- for this text's walks alone
set_option linter.unusedVariables false
set_option linter.unusedSimpArgs false
/-! ### spec_l00In: function 66 -/
def spec_l00In.f (a0 : Int) (a1 : Int) (a2 : Int) : Option (Bool) := if a0 ≥ a1 then (some (decide (a0 ≤ a2))) else (some false)
set_option maxHeartbeats 8000000 in
set_option maxRecDepth 100000 in
theorem spec_l00In.calls (a0 : Int) (a1 : Int) (a2 : Int) (r : Bool) (w : World) (h : spec_l00In.f a0 a1 a2 = some r) :
  Calls Tryd.prog 66 #[.int .i64 a0, .int .i64 a1, .int .i64 a2] w fun e w' => e = .returned (.bool r) ∧ Drawn0 w w' := by
 have H : (if a0 ≥ a1 then (some (decide (a0 ≤ a2))) else (some false)) = some r := h
 clear h
 by_cases c4 : a0 ≥ a1
 ·rw [if_pos c4] at H
  have c4b0 : decide (a1 ≤ a0) = true := decide_eq_true c4
  clear c4
  obtain rfl := Option.some.inj H
  simp only [Option.some.injEq, Prod.mk.injEq] at H
  obtain ⟨rfl⟩ := H
  go_enter Tryd.func66, Tryd.ntmps66
  go_wp2
  go_ret
  exact ⟨by first | rfl | (simp; done) | (simp [*]; done) | (simp [wrap64]; done), by repeat (first | exact Drawn0.refl _ | apply Drawn0.step)⟩
 ·rw [if_neg c4] at H
  have c4b0 : decide (a1 ≤ a0) = false := decide_eq_false c4
  clear c4
  obtain rfl := Option.some.inj H
  simp only [Option.some.injEq, Prod.mk.injEq] at H
  obtain ⟨rfl⟩ := H
  go_enter Tryd.func66, Tryd.ntmps66
  go_wp2
  go_ret
  exact ⟨by first | rfl | (simp; done) | (simp [*]; done) | (simp [wrap64]; done), by repeat (first | exact Drawn0.refl _ | apply Drawn0.step)⟩
/-! ### impl_within: function 71 -/
def impl_within.f (a0 : Int) (a1 : Int) (a2 : Int) : Option (Bool) := if a1 ≤ a0 then (some (decide (a0 ≤ a2))) else (some false)
set_option maxHeartbeats 8000000 in
set_option maxRecDepth 100000 in
theorem impl_within.calls (a0 : Int) (a1 : Int) (a2 : Int) (r : Bool) (w : World) (h : impl_within.f a0 a1 a2 = some r) :
  Calls Tryd.prog 71 #[.int .i64 a0, .int .i64 a1, .int .i64 a2] w fun e w' => e = .returned (.bool r) ∧ Drawn0 w w' := by
 have H : (if a1 ≤ a0 then (some (decide (a0 ≤ a2))) else (some false)) = some r := h
 clear h
 by_cases c4 : a1 ≤ a0
 ·rw [if_pos c4] at H
  have c4b0 : decide (a1 ≤ a0) = true := decide_eq_true c4
  clear c4
  obtain rfl := Option.some.inj H
  simp only [Option.some.injEq, Prod.mk.injEq] at H
  obtain ⟨rfl⟩ := H
  go_enter Tryd.func71, Tryd.ntmps71
  go_wp2
  go_ret
  exact ⟨by first | rfl | (simp; done) | (simp [*]; done) | (simp [wrap64]; done), by repeat (first | exact Drawn0.refl _ | apply Drawn0.step)⟩
 ·rw [if_neg c4] at H
  have c4b0 : decide (a1 ≤ a0) = false := decide_eq_false c4
  clear c4
  obtain rfl := Option.some.inj H
  simp only [Option.some.injEq, Prod.mk.injEq] at H
  obtain ⟨rfl⟩ := H
  go_enter Tryd.func71, Tryd.ntmps71
  go_wp2
  go_ret
  exact ⟨by first | rfl | (simp; done) | (simp [*]; done) | (simp [wrap64]; done), by repeat (first | exact Drawn0.refl _ | apply Drawn0.step)⟩
/-! ### impl_areTapes: function 100 -/
def impl_areTapes.f (a0 : Int) : Option (Bool) := (impl_within.f a0 1 3).bind fun t101 => (some t101)
set_option maxHeartbeats 8000000 in
set_option maxRecDepth 100000 in
theorem impl_areTapes.calls (a0 : Int) (r : Bool) (w : World) (h : impl_areTapes.f a0 = some r) :
  Calls Tryd.prog 100 #[.int .i64 a0] w fun e w' => e = .returned (.bool r) ∧ Drawn0 w w' := by
 have H : ((impl_within.f a0 1 3).bind fun t101 => (some t101)) = some r := h
 clear h
 replace H := Option.bind_eq_some_iff.mp H
 obtain ⟨t101, A20, H⟩ := H
 replace H : (some t101) = some r := H
 have A2 := Aside0.mk A20
 clear A20
 obtain rfl := Option.some.inj H
 simp only [Option.some.injEq, Prod.mk.injEq] at H
 obtain ⟨rfl⟩ := H
 go_enter Tryd.func100, Tryd.ntmps100
 go_wp2_with (first | ((with_reducible refine gate_callee (f := 71) rfl ?_); refine goesL_ (some 4) rfl rfl Tryd.func71 (by kernel_rfl) rfl #[.int .i64 a0, .int .i64 1, .int .i64 3] rfl (by (try simp only [List.map_toArray, List.map_cons, List.map_nil]); first | done | rfl | (simp only [List.length_drop, List.length_take]; rfl)) ?_; (with_reducible refine (impl_within.calls a0 1 3 t101 _ A2.out).mono ?_); rintro e w' ⟨rfl, ⟨nd, rfl⟩⟩; refine ⟨_, rfl, ?_⟩))
 go_ret
 exact ⟨by first | rfl | (simp; done) | (simp [*]; done) | (simp [wrap64]; done), by repeat (first | exact Drawn0.refl _ | apply Drawn0.step)⟩
end Go.Proofs.YtnjdkhnepmmfgaaDoor.PT2
namespace Go.Proofs.YtnjdkhnepmmfgaaDoor.PT2
open Go.RowKit Go.Proofs.YtnjdkhnepmmfgaaDoorW.PrintWords Go.Proofs.YtnjdkhnepmmfgaaDoorW.PrintLast Go.Proofs.YtnjdkhnepmmfgaaDoorW.PrintMore PB1 PL1
attribute [local go_sem] max2_int min2_int max_two min_two max_three min_three max_four min_four   -- for this text's walks alone
set_option linter.unusedVariables false
set_option linter.unusedSimpArgs false
end Go.Proofs.YtnjdkhnepmmfgaaDoor.PT2
namespace Go.Proofs.YtnjdkhnepmmfgaaDoor.Lr
set_option linter.unusedVariables false
set_option linter.unusedSimpArgs false
open Go.RowKit Go.Proofs.YtnjdkhnepmmfgaaDoorW.PrintWords Go.Proofs.YtnjdkhnepmmfgaaDoorW.PrintLast Go.Proofs.YtnjdkhnepmmfgaaDoorW.PrintMore Kp PB1 PT2 Go.Proofs.YtnjdkhnepmmfgaaDoor.Pure Tf
theorem at_cell {w1 w2 : World} (hb : Below w1.heap.size w1 w2) {p : Addr} {v : Value} (hc : w1.cell? p = some v) : w2.cell? p = some v := (hb.cell (World.block_lt_of_cell? w1 _ hc)).trans hc
/-! ### what is valid -/
def okX (n : Nat) (x : Int) : Bool := decide (0 ≤ x ∧ x < (n : Int))
def okW (t : Int) (n : Nat) (r : List Int) : Bool := decide (r.length = wdOf t.toNat) && r.all (okX n)
/-- The shape of a relation, of any size. -/
def okF (t s : Int) (a : List Bool) (b : List (List Int)) : Bool := decide (1 ≤ t ∧ t ≤ 3) && decide (1 ≤ a.length) && okX a.length s && decide (b.length = a.length) && b.all (okW t a.length)
theorem in_spec (x lo hi : Int) (W : World) : Calls Tryd.prog 66 #[.int .i64 x, .int .i64 lo, .int .i64 hi] W fun e W' => e = .returned (.bool (decide (lo ≤ x ∧ x ≤ hi))) ∧ Below W.heap.size W W' := by
 have h : spec_l00In.f x lo hi = some (decide (lo ≤ x ∧ x ≤ hi)) := by
  unfold spec_l00In.f
  by_cases h : x ≥ lo
  ·rw [if_pos h]; congr 1; rw [decide_eq_decide]; omega
  ·rw [if_neg h]; congr 1; symm; rw [decide_eq_false_iff_not]; omega
 exact (spec_l00In.calls x lo hi _ W h).mono (fun e W' hh => ⟨hh.1, hh.2.below⟩)
theorem in_impl (x lo hi : Int) (W : World) : Calls Tryd.prog 71 #[.int .i64 x, .int .i64 lo, .int .i64 hi] W fun e W' => e = .returned (.bool (decide (lo ≤ x ∧ x ≤ hi))) ∧ Below W.heap.size W W' := by
 have h : impl_within.f x lo hi = some (decide (lo ≤ x ∧ x ≤ hi)) := by
  unfold impl_within.f
  by_cases h : lo ≤ x
  ·rw [if_pos h]; congr 1; rw [decide_eq_decide]; omega
  ·rw [if_neg h]; congr 1; symm; rw [decide_eq_false_iff_not]; omega
 exact (impl_within.calls x lo hi _ W h).mono (fun e W' hh => ⟨hh.1, hh.2.below⟩)
theorem tapes_impl (x : Int) (W : World) : Calls Tryd.prog 100 #[.int .i64 x] W fun e W' => e = .returned (.bool (decide (1 ≤ x ∧ x ≤ 3))) ∧ Below W.heap.size W W' := by
 have h : impl_areTapes.f x = some (decide (1 ≤ x ∧ x ≤ 3)) := by
  unfold impl_areTapes.f impl_within.f
  by_cases h : 1 ≤ x
  ·rw [if_pos h, Option.bind_some]; congr 1; rw [decide_eq_decide]; omega
  ·rw [if_neg h, Option.bind_some]; congr 1; symm; rw [decide_eq_false_iff_not]; omega
 exact (impl_areTapes.calls x _ W h).mono (fun e W' hh => ⟨hh.1, hh.2.below⟩)
theorem wide_specQ {t : Int} (h0 : 0 ≤ t) (h : t ≤ 3) (W : World) : Calls Tryd.prog 53 #[.int .i64 t] W fun e W' => e = .returned (.int .i64 ((wdOf t.toNat : Nat) : Int)) ∧ Drawn0 W W' := by
 have e : ((t.toNat : Nat) : Int) = t := by omega
 exact spec_l01Wide.calls 10 t _ W (by have := (fin_wide t.toNat (by omega)).2; rwa [e] at this)
theorem wide_impl {t : Int} (h0 : 0 ≤ t) (h : t ≤ 3) (W : World) : Calls Tryd.prog 94 #[.int .i64 t] W fun e W' => e = .returned (.int .i64 ((wdOf t.toNat : Nat) : Int)) ∧ Below W.heap.size W W' := by
 have e : ((t.toNat : Nat) : Int) = t := by omega
 exact (impl_widthOf.calls 10 t _ W (by have := (fin_wide t.toNat (by omega)).1; rwa [e] at this)).mono (fun e W' hh => ⟨hh.1, hh.2.below⟩)
theorem in_x {n : Nat} (h1 : 1 ≤ n) (h2 : n ≤ 1048576) (x : Int) : decide (0 ≤ x ∧ x ≤ (n : Int) - 1) = okX n x := by
 unfold okX
 rw [decide_eq_decide]
 omega
theorem all_false {α : Type} {p : α → Bool} {l : List α} {x : α} (hm : x ∈ l) (h : p x = false) : l.all p = false := by
 rw [List.all_eq_false]
 exact ⟨x, hm, by rw [h]; simp⟩
theorem all_take {α : Type} {p : α → Bool} {l : List α} {i : Nat} (hi : i < l.length) (h : (l.take i).all p = true) (hx : p l[i] = true) : (l.take (i + 1)).all p = true := by
 rw [List.take_succ_eq_append_getElem hi, List.all_append, h, List.all_cons, hx]
 rfl
set_option maxHeartbeats 4000000 in
/-- The reference's test of a relation's shape. -/
theorem form (gp : Nat) (t s : Int) (A2 : Option Addr) (c2 : Nat) (a : List Bool) (A3 : Option Addr) (c3 : Nat) (b : List (List Int)) (w : World) (hP : w.heap[gp]? = some (.cells #[.int .i64 t, .int .i64 s, .slice A2 a.length c2, .slice A3 b.length c3] 27 (0, 0)))
  (h3 : Kd.C (Kd.slice 2 (Kd.int .i64)) w A3 b.length b) (l3 : b.length ≤ c3) (ha : a.length ≤ 1048576) (hb : b.length ≤ 1048576) (hs : ∀ r ∈ b, r.length ≤ 1048576) :
  Calls Tryd.prog 96 #[.pointer (some ⟨gp, 0, none⟩)] w fun e w' => e = .returned (.bool (okF t s a b)) ∧ Below w.heap.size w w' := by
 have hgp := blk_lt hP
 have m0 : w.cell? ⟨gp, 0, none⟩ = some (.int .i64 t) := (blk_cell hP 0).trans rfl
 have m1 : w.cell? ⟨gp, 1, none⟩ = some (.int .i64 s) := (blk_cell hP 1).trans rfl
 have m2 : w.cell? ⟨gp, 2, none⟩ = some (.slice A2 a.length c2) := (blk_cell hP 2).trans rfl
 have m3 : w.cell? ⟨gp, 3, none⟩ = some (.slice A3 b.length c3) := (blk_cell hP 3).trans rfl
 have hin := Aside0.mk in_spec
 by_cases ht : 1 ≤ t ∧ t ≤ 3
 ·have ht1 := Aside0.mk (decide_eq_true ht)
  by_cases h1 : 1 ≤ a.length
  ·have h1a : ((a.length : Int) < 1) = False := eq_false (by omega)
   have hwl : wrap64 ((a.length : Int) - 1) = (a.length : Int) - 1 := by unfold wrap64; omega
   cases hx : okX a.length s with
   | false =>
    have hr : okF t s a b = false := by unfold okF; rw [hx, Bool.and_false, Bool.false_and, Bool.false_and]
    rw [hr]
    go_enter Tryd.func96, Tryd.ntmps96
    go_wp2_with (first
     | (go_at_call 66; (with_reducible refine (hin.out t 1 3 _).mono ?_); go_loud (
       rintro e w1 ⟨he, hb1⟩
       rw [ht1.out] at he
       subst he
       have n1 := at_cell hb1 m1
       have n2 := at_cell hb1 m3))
     | (go_at_call 66; (with_reducible refine (hin.out s 0 ((a.length : Int) - 1) _).mono ?_); go_loud (
       rintro e w2 ⟨he, hb2⟩
       rw [in_x h1 ha, hx] at he
       subst he
       have hB2 := below_step hb1 hb2)))
    go_ret
    exact ⟨rfl, hB2⟩
   | true =>
    by_cases hl : b.length = a.length
    ·have hr : okF t s a b = b.all (okW t a.length) := by unfold okF; rw [decide_eq_true ht, decide_eq_true h1, hx, decide_eq_true hl]; simp
     rw [hr]
     have hl1 : ((b.length : Int) = (a.length : Int)) = True := eq_true (by omega)
     have hl2 : ((b.length : Int) == (a.length : Int)) = true := by simp <;> omega
     have hl3 : ((b.length : Int) != (a.length : Int)) = false := by simp <;> omega
     have hlq := Aside0.mk hl
     clear hl
     go_enter Tryd.func96, Tryd.ntmps96
     go_wp2_with (first
      | (go_at_call 66; (with_reducible refine (hin.out t 1 3 _).mono ?_); go_loud (
        rintro e w1 ⟨he, hb1⟩
        rw [ht1.out] at he
        subst he
        have n1 := at_cell hb1 m1
        have n2 := at_cell hb1 m3))
      | (go_at_call 66; (with_reducible refine (hin.out s 0 ((a.length : Int) - 1) _).mono ?_); go_loud (
        rintro e w2 ⟨he, hb2⟩
        rw [in_x h1 ha, hx] at he
        subst he
        have hB2 := below_step hb1 hb2
        have n3 := at_cell hB2 m3)))
     have hwl2 := Aside0.mk hwl
     have hx2 := Aside0.mk hx
     clear hl1 hl2 hl3 n1 n2 n3 hwl hb1 hb2 hx hr
     go_loopg [4] b.length (fun kq v4 W => ∃ i : Nat, v4 = .int .i64 (i : Int) ∧ Aside0 (kq = b.length - i) ∧ i ≤ b.length ∧ Aside0 ((b.take i).all (okW t a.length) = true) ∧ Aside0 (Below w.heap.size w W))
     case atStart => exact ⟨0, rfl, ⟨rfl⟩, Nat.zero_le _, ⟨rfl⟩, ⟨hB2⟩⟩
     case round =>
      clear hB2
      obtain ⟨wo, rfl⟩ : ∃ wo : World, wo = wr := ⟨_, rfl⟩
      obtain ⟨i, rfl, hk, hil, hall, hb⟩ := hrel
      have o0 := at_cell hb.out m0
      have o3 := at_cell hb.out m3
      by_cases hi : i < b.length
      ·obtain ⟨ad, rfl, A9, c9, e9, hl9, hC9⟩ := at_row h3 i hi
       have o9 := at_cell hb.out e9
       have hi1 : ((i : Int) < (b.length : Int)) = True := eq_true (by omega)
       have h0i : (0 ≤ (i : Int)) = True := eq_true (by omega)
       obtain ⟨r, hr⟩ : ∃ r, b[i] = r := ⟨_, rfl⟩
       have hrm : r ∈ b := by rw [← hr]; exact List.getElem_mem hi
       have hrl := hs r hrm
       have hr2 := Aside0.mk hr
       rw [hr] at o9 hl9 hC9
       clear e9 hr
       go_wp2_with fail
       by_cases hw : r.length = wdOf t.toNat
       ·have hw1 : ((r.length : Int) = ((wdOf t.toNat : Nat) : Int)) = True := eq_true (by omega)
        have hw2 : ((r.length : Int) == ((wdOf t.toNat : Nat) : Int)) = true := by simp <;> omega
        have hw3 : ((r.length : Int) != ((wdOf t.toNat : Nat) : Int)) = false := by simp <;> omega
        go_quiet ((go_at_call 53; (with_reducible refine (wide_specQ (by omega) ht.2 _).mono ?_); rintro e w' ⟨rfl, ⟨nd, rfl⟩⟩; (try first | exact ⟨rfl, _, World.drewN_drewN _ _ _⟩ | exact ⟨rfl, _, Eq.trans (World.drewN_drewN _ _ _) (congrArg (World.drewN _) (Nat.add_assoc _ _ _))⟩)))
        generalize nq = n1
        have hb3 := below_step hb.out (pw_below_drewN (Below.refl _ _) n1)
        have hHB := Aside0.mk hb3
        clear hw1 hw2 hw3 o0 o3 o9 hi1 h0i hb3
        generalize wo.drewN n1 = wp at *
        go_wp2_with fail
        go_loopg [5] r.length (fun kz v5 W => ∃ c : Nat, v5 = .int .i64 (c : Int) ∧ Aside0 (kz = r.length - c) ∧ c ≤ r.length ∧ Aside0 ((r.take c).all (okX a.length) = true) ∧ Aside0 (Below w.heap.size w W))
        case atStart => exact ⟨0, rfl, ⟨rfl⟩, Nat.zero_le _, ⟨rfl⟩, hHB⟩
        case round =>
         clear hHB
         obtain ⟨c, rfl, hkz, hcl, hac, hbz⟩ := hrel
         have o3 := at_cell hbz.out m3
         obtain ⟨ad2, e2, A8, c8, e8, hl8, hC8⟩ := at_row h3 i hi
         cases e2
         rw [hr2.out] at e8 hl8 hC8
         have o8 := at_cell hbz.out e8
         have hi1 : ((i : Int) < (b.length : Int)) = True := eq_true (by omega)
         have h0i : (0 ≤ (i : Int)) = True := eq_true (by omega)
         by_cases hc : c < r.length
         ·obtain ⟨ad3, rfl, e7⟩ := at_num hC8 c hc
          have o7 := at_cell hbz.out e7
          obtain ⟨x, hxe⟩ : ∃ x, r[c] = x := ⟨_, rfl⟩
          rw [hxe] at o7
          have hxe2 := Aside0.mk hxe
          have hc1 : ((c : Int) < (r.length : Int)) = True := eq_true (by omega)
          have h0c : (0 ≤ (c : Int)) = True := eq_true (by omega)
          clear e8 e7 hxe
          have hwl := hwl2.out
          cases hxx : okX a.length x with
          | true =>
           go_wp2_with (go_at_call 66; (with_reducible refine (hin.out x 0 ((a.length : Int) - 1) _).mono ?_); go_loud (
            rintro e w2 ⟨he, hb2⟩
            rw [in_x h1 ha, hxx] at he
            subst he
            have hB2 := below_step hbz.out hb2))
           clear hwl
           go_roundg (r.length - (c + 1))
           case measure => have := hkz.out; omega
           case rel => exact ⟨c + 1, (by go_num), ⟨rfl⟩, by omega, ⟨all_take hc hac.out (by rw [hxe2.out]; exact hxx)⟩, ⟨hB2⟩⟩
          | false =>
           go_wp2_with (go_at_call 66; (with_reducible refine (hin.out x 0 ((a.length : Int) - 1) _).mono ?_); go_loud (
            rintro e w2 ⟨he, hb2⟩
            rw [in_x h1 ha, hxx] at he
            subst he
            have hB2 := below_step hbz.out hb2))
           go_ret
           have hf : r.all (okX a.length) = false := all_false (by rw [← hxe2.out]; exact List.getElem_mem hc) hxx
           have hf2 : b.all (okW t a.length) = false := all_false hrm (by unfold okW; rw [hf, Bool.and_false])
           rw [hf2]
           exact ⟨rfl, hB2⟩
         ·have hc1 : ((c : Int) < (r.length : Int)) = False := eq_false (by omega)
          have hac2 := hac.out
          rw [List.take_of_length_le (by omega)] at hac2
          clear e8
          go_wp2_with fail
          go_roundg (b.length - (i + 1))
          case measure => have := hk.out; omega
          case rel => exact ⟨i + 1, (by go_num), ⟨rfl⟩, by omega, ⟨all_take hi hall.out (by rw [hr2.out]; unfold okW; rw [decide_eq_true hw, hac2]; rfl)⟩, hbz⟩
       ·have hw1 : ((r.length : Int) = ((wdOf t.toNat : Nat) : Int)) = False := eq_false (by omega)
        have hw2 : ((r.length : Int) == ((wdOf t.toNat : Nat) : Int)) = false := by simp <;> omega
        have hw3 : ((r.length : Int) != ((wdOf t.toNat : Nat) : Int)) = true := by simp <;> omega
        go_quiet ((go_at_call 53; (with_reducible refine (wide_specQ (by omega) ht.2 _).mono ?_); rintro e w' ⟨rfl, ⟨nd, rfl⟩⟩; (try first | exact ⟨rfl, _, World.drewN_drewN _ _ _⟩ | exact ⟨rfl, _, Eq.trans (World.drewN_drewN _ _ _) (congrArg (World.drewN _) (Nat.add_assoc _ _ _))⟩)))
        have hb3 := below_step hb.out (pw_below_drewN (Below.refl _ _) nq)
        go_wp2_with fail
        go_ret
        have hf2 : b.all (okW t a.length) = false := all_false hrm (by unfold okW; rw [decide_eq_false hw, Bool.false_and])
        rw [hf2]
        exact ⟨rfl, hb3⟩
      ·have hi1 : ((i : Int) < (b.length : Int)) = False := eq_false (by omega)
       have hall2 := hall.out
       rw [List.take_of_length_le (by omega)] at hall2
       go_wp2_with fail
       go_ret
       rw [hall2]
       exact ⟨rfl, hb.out⟩
    ·have hr : okF t s a b = false := by unfold okF; rw [decide_eq_false hl, Bool.and_false, Bool.false_and]
     rw [hr]
     have hl1 : ((b.length : Int) = (a.length : Int)) = False := eq_false (by omega)
     have hl2 : ((b.length : Int) == (a.length : Int)) = false := by simp <;> omega
     have hl3 : ((b.length : Int) != (a.length : Int)) = true := by simp <;> omega
     go_enter Tryd.func96, Tryd.ntmps96
     go_wp2_with (first
      | (go_at_call 66; (with_reducible refine (hin.out t 1 3 _).mono ?_); go_loud (
        rintro e w1 ⟨he, hb1⟩
        rw [ht1.out] at he
        subst he
        have n1 := at_cell hb1 m1
        have n2 := at_cell hb1 m3))
      | (go_at_call 66; (with_reducible refine (hin.out s 0 ((a.length : Int) - 1) _).mono ?_); go_loud (
        rintro e w2 ⟨he, hb2⟩
        rw [in_x h1 ha, hx] at he
        subst he
        have hB2 := below_step hb1 hb2
        have n3 := at_cell hB2 m3)))
     go_ret
     exact ⟨rfl, hB2⟩
  ·have h1a : ((a.length : Int) < 1) = True := eq_true (by omega)
   have hr : okF t s a b = false := by unfold okF; rw [decide_eq_false h1, Bool.and_false, Bool.false_and, Bool.false_and, Bool.false_and]
   rw [hr]
   go_enter Tryd.func96, Tryd.ntmps96
   go_wp2_with (go_at_call 66; (with_reducible refine (hin.out t 1 3 _).mono ?_); go_loud (
     rintro e w1 ⟨he, hb1⟩
     rw [ht1.out] at he
     subst he))
   go_ret
   exact ⟨rfl, hb1⟩
 ·have ht1 := Aside0.mk (decide_eq_false ht)
  have hr : okF t s a b = false := by unfold okF; rw [decide_eq_false ht, Bool.false_and, Bool.false_and, Bool.false_and, Bool.false_and]
  rw [hr]
  go_enter Tryd.func96, Tryd.ntmps96
  go_wp2_with (go_at_call 66; (with_reducible refine (hin.out t 1 3 _).mono ?_); go_loud (
    rintro e w1 ⟨he, hb1⟩
    rw [ht1.out] at he
    subst he))
  go_ret
  exact ⟨rfl, hb1⟩
def okR (t s : Int) (a : List Bool) (b : List (List Int)) : Bool := decide (a.length ≤ 150) && okF t s a b
theorem okR_of (t s : Int) (a : List Bool) (b : List (List Int)) : okR t s a b = (decide (1 ≤ t ∧ t ≤ 3) && (decide (1 ≤ (a.length : Int) ∧ (a.length : Int) ≤ 150) && (decide (b.length = a.length) && (okX a.length s && b.all (okW t a.length))))) := by
 unfold okR okF
 have e : decide (1 ≤ (a.length : Int) ∧ (a.length : Int) ≤ 150) = (decide (1 ≤ a.length) && decide (a.length ≤ 150)) := by
  rw [← Bool.decide_and, decide_eq_decide]
  omega
 rw [e]
 cases decide (1 ≤ t ∧ t ≤ 3) <;> cases decide (1 ≤ a.length) <;> cases decide (a.length ≤ 150) <;> cases decide (b.length = a.length) <;> cases okX a.length s <;> simp
set_option maxHeartbeats 4000000 in
/-- The program's test of a relation. -/
theorem valid (t s : Int) (A2 : Option Addr) (c2 : Nat) (a : List Bool) (A3 : Option Addr) (c3 : Nat) (b : List (List Int)) (w : World)
  (h3 : Kd.C (Kd.slice 2 (Kd.int .i64)) w A3 b.length b) (l3 : b.length ≤ c3) (ha : a.length ≤ 1048576) (hb : b.length ≤ 1048576) (hs : ∀ r ∈ b, r.length ≤ 1048576) :
  Calls Tryd.prog 70 #[.agg #[.int .i64 t, .int .i64 s, .slice A2 a.length c2, .slice A3 b.length c3]] w fun e w' => e = .returned (.bool (okR t s a b)) ∧ Below w.heap.size w w' := by
 have hB0 : Below w.heap.size w (w.alloc (.cells #[.int .i64 t, .int .i64 s, .slice A2 a.length c2, .slice A3 b.length c3] 27)) := below_alloc (Below.refl _ _) _
 have hP := blk_new w (.cells #[.int .i64 t, .int .i64 s, .slice A2 a.length c2, .slice A3 b.length c3] 27)
 have m0 : (w.alloc (.cells #[.int .i64 t, .int .i64 s, .slice A2 a.length c2, .slice A3 b.length c3] 27)).cell? ⟨w.heap.size, 0, none⟩ = some (.int .i64 t) := (blk_cell hP 0).trans rfl
 have m1 : (w.alloc (.cells #[.int .i64 t, .int .i64 s, .slice A2 a.length c2, .slice A3 b.length c3] 27)).cell? ⟨w.heap.size, 1, none⟩ = some (.int .i64 s) := (blk_cell hP 1).trans rfl
 have m2 : (w.alloc (.cells #[.int .i64 t, .int .i64 s, .slice A2 a.length c2, .slice A3 b.length c3] 27)).cell? ⟨w.heap.size, 2, none⟩ = some (.slice A2 a.length c2) := (blk_cell hP 2).trans rfl
 have m3 : (w.alloc (.cells #[.int .i64 t, .int .i64 s, .slice A2 a.length c2, .slice A3 b.length c3] 27)).cell? ⟨w.heap.size, 3, none⟩ = some (.slice A3 b.length c3) := (blk_cell hP 3).trans rfl
 have hin := Aside0.mk in_impl
 rw [okR_of]
 cases ht : decide (1 ≤ t ∧ t ≤ 3) with
 | false =>
  rw [Bool.false_and]
  have ht1 := Aside0.mk ht
  go_enter Tryd.func70, Tryd.ntmps70
  go_wp2_with (go_at_call 100; (with_reducible refine (tapes_impl t _).mono ?_); go_loud (
   rintro e w1 ⟨he, hb1⟩
   rw [ht1.out] at he
   subst he
   have k1 := at_cell hb1 m3))
  go_ret
  exact ⟨rfl, below_step hB0 hb1⟩
 | true =>
 rw [Bool.true_and]
 have ht1 := Aside0.mk ht
 have ht2 := Aside0.mk (of_decide_eq_true ht)
 clear ht
 cases h1 : decide (1 ≤ (a.length : Int) ∧ (a.length : Int) ≤ 150) with
 | false =>
  rw [Bool.false_and]
  have h12 := Aside0.mk h1
  clear h1
  go_enter Tryd.func70, Tryd.ntmps70
  go_wp2_with (first | (go_at_call 100; (with_reducible refine (tapes_impl t _).mono ?_); go_loud (
   rintro e w1 ⟨he, hb1⟩
   rw [ht1.out] at he
   subst he
   have k1 := at_cell hb1 m3)) | (go_at_call 71; (with_reducible refine (hin.out (a.length : Int) 1 150 _).mono ?_); go_loud (
   rintro e w2 ⟨he, hb2⟩
   rw [h12.out] at he
   subst he
   have k2 := at_cell (below_step hb1 hb2) m3
   have k3 := at_cell (below_step hb1 hb2) m1
   have hB2 := below_step hB0 (below_step hb1 hb2))))
  go_ret
  exact ⟨rfl, hB2⟩
 | true =>
 rw [Bool.true_and]
 have h12 := Aside0.mk h1
 have h13 : 1 ≤ a.length ∧ a.length ≤ 150 := by have := of_decide_eq_true h1; omega
 clear h1
 by_cases hl : b.length = a.length
 case neg =>
  have hl1 : ((b.length : Int) = (a.length : Int)) = False := eq_false (by omega)
  have hl2 : ((b.length : Int) == (a.length : Int)) = false := by simp <;> omega
  have hl3 : ((b.length : Int) != (a.length : Int)) = true := by simp <;> omega
  rw [decide_eq_false hl, Bool.false_and]
  go_enter Tryd.func70, Tryd.ntmps70
  go_wp2_with (first | (go_at_call 100; (with_reducible refine (tapes_impl t _).mono ?_); go_loud (
   rintro e w1 ⟨he, hb1⟩
   rw [ht1.out] at he
   subst he
   have k1 := at_cell hb1 m3)) | (go_at_call 71; (with_reducible refine (hin.out (a.length : Int) 1 150 _).mono ?_); go_loud (
   rintro e w2 ⟨he, hb2⟩
   rw [h12.out] at he
   subst he
   have k2 := at_cell (below_step hb1 hb2) m3
   have k3 := at_cell (below_step hb1 hb2) m1
   have hB2 := below_step hB0 (below_step hb1 hb2))))
  go_ret
  exact ⟨rfl, hB2⟩
 have hl1 : ((b.length : Int) = (a.length : Int)) = True := eq_true (by omega)
 have hl2 : ((b.length : Int) == (a.length : Int)) = true := by simp <;> omega
 have hl3 : ((b.length : Int) != (a.length : Int)) = false := by simp <;> omega
 have hwl : wrap64 ((a.length : Int) - 1) = (a.length : Int) - 1 := by unfold wrap64; omega
 rw [decide_eq_true hl, Bool.true_and]
 clear hl
 cases hx : okX a.length s with
 | false =>
  rw [Bool.false_and]
  have hx2 := Aside0.mk hx
  clear hx
  go_enter Tryd.func70, Tryd.ntmps70
  go_wp2_with (first | (go_at_call 100; (with_reducible refine (tapes_impl t _).mono ?_); go_loud (
   rintro e w1 ⟨he, hb1⟩
   rw [ht1.out] at he
   subst he
   have k1 := at_cell hb1 m3)) | (go_at_call 71; (with_reducible refine (hin.out (a.length : Int) 1 150 _).mono ?_); go_loud (
   rintro e w2 ⟨he, hb2⟩
   rw [h12.out] at he
   subst he
   have k2 := at_cell (below_step hb1 hb2) m3
   have k3 := at_cell (below_step hb1 hb2) m1
   have hB2 := below_step hB0 (below_step hb1 hb2))) | (go_at_call 71; (with_reducible refine (hin.out s 0 ((a.length : Int) - 1) _).mono ?_); go_loud (
   rintro e w3 ⟨he, hb3⟩
   rw [in_x h13.1 ha, hx2.out] at he
   subst he
   have k4 := at_cell (below_step (below_step hb1 hb2) hb3) m3
   have k5 := at_cell (below_step (below_step hb1 hb2) hb3) m1
   have hBB := Aside0.mk (below_step (below_step hb1 hb2) hb3)
   have hB3 := below_step hB2 hb3)))
  go_ret
  exact ⟨rfl, hB3⟩
 | true =>
 rw [Bool.true_and]
 have hx2 := Aside0.mk hx
 clear hx
 go_enter Tryd.func70, Tryd.ntmps70
 go_wp2_with (first | (go_at_call 100; (with_reducible refine (tapes_impl t _).mono ?_); go_loud (
   rintro e w1 ⟨he, hb1⟩
   rw [ht1.out] at he
   subst he
   have k1 := at_cell hb1 m3)) | (go_at_call 71; (with_reducible refine (hin.out (a.length : Int) 1 150 _).mono ?_); go_loud (
   rintro e w2 ⟨he, hb2⟩
   rw [h12.out] at he
   subst he
   have k2 := at_cell (below_step hb1 hb2) m3
   have k3 := at_cell (below_step hb1 hb2) m1
   have hB2 := below_step hB0 (below_step hb1 hb2))) | (go_at_call 71; (with_reducible refine (hin.out s 0 ((a.length : Int) - 1) _).mono ?_); go_loud (
   rintro e w3 ⟨he, hb3⟩
   rw [in_x h13.1 ha, hx2.out] at he
   subst he
   have k4 := at_cell (below_step (below_step hb1 hb2) hb3) m3
   have k5 := at_cell (below_step (below_step hb1 hb2) hb3) m1
   have hBB := Aside0.mk (below_step (below_step hb1 hb2) hb3)
   have hB3 := below_step hB2 hb3)))
 have hwl2 := Aside0.mk hwl
 have hb4 := Aside0.mk hb3
 clear hl1 hl2 hl3 hwl hb1 hb2 hb3 k1 k2 k3 k4 k5 hB2 hB3
 have hBz : Below (w.alloc (.cells #[.int .i64 t, .int .i64 s, .slice A2 a.length c2, .slice A3 b.length c3] 27)).heap.size (w.alloc (.cells #[.int .i64 t, .int .i64 s, .slice A2 a.length c2, .slice A3 b.length c3] 27)) w3 := hBB.out
 clear hBB hb4
 go_loopg [38] b.length (fun kq v38 W => ∃ i : Nat, v38 = .int .i64 (i : Int) ∧ Aside0 (kq = b.length - i) ∧ i ≤ b.length ∧ Aside0 ((b.take i).all (okW t a.length) = true) ∧ Aside0 (Below (w.alloc (.cells #[.int .i64 t, .int .i64 s, .slice A2 a.length c2, .slice A3 b.length c3] 27)).heap.size (w.alloc (.cells #[.int .i64 t, .int .i64 s, .slice A2 a.length c2, .slice A3 b.length c3] 27)) W))
 case atStart => exact ⟨0, rfl, ⟨rfl⟩, Nat.zero_le _, ⟨rfl⟩, ⟨hBz⟩⟩
 case round =>
  clear hBz
  obtain ⟨wo, rfl⟩ : ∃ wo : World, wo = wr := ⟨_, rfl⟩
  obtain ⟨i, rfl, hk, hil, hall, hbo⟩ := hrel
  have o0 := at_cell hbo.out m0
  by_cases hi : i < b.length
  ·obtain ⟨ad, rfl, A9, c9, e9, hl9, hC9⟩ := at_row h3 i hi
   have o9 := at_cell (below_step hB0 hbo.out) e9
   have hi1 : ((i : Int) < (b.length : Int)) = True := eq_true (by omega)
   have h0i : (0 ≤ (i : Int)) = True := eq_true (by omega)
   obtain ⟨r, hr⟩ : ∃ r, b[i] = r := ⟨_, rfl⟩
   have hrm : r ∈ b := by rw [← hr]; exact List.getElem_mem hi
   have hrl := hs r hrm
   have hr2 := Aside0.mk hr
   rw [hr] at o9 hl9 hC9
   clear e9 hr
   by_cases hw : r.length = wdOf t.toNat
   ·have hw1 : ((r.length : Int) = ((wdOf t.toNat : Nat) : Int)) = True := eq_true (by omega)
    have hw2 : ((r.length : Int) == ((wdOf t.toNat : Nat) : Int)) = true := by simp <;> omega
    have hw3 : ((r.length : Int) != ((wdOf t.toNat : Nat) : Int)) = false := by simp <;> omega
    have hwq := Aside0.mk hw
    clear hw
    go_wp2_with (go_at_call 94; (with_reducible refine (wide_impl (by have := ht2.out; omega) ht2.out.2 _).mono ?_); go_loud (
     rintro e w4 ⟨rfl, hb4⟩))
    have hHB := Aside0.mk (below_step hbo.out hb4)
    clear hw1 hw2 hw3 o0 o9 hb4
    go_loopg [50] r.length (fun kz v50 W => ∃ c : Nat, v50 = .int .i64 (c : Int) ∧ Aside0 (kz = r.length - c) ∧ c ≤ r.length ∧ Aside0 ((r.take c).all (okX a.length) = true) ∧ Aside0 (Below (w.alloc (.cells #[.int .i64 t, .int .i64 s, .slice A2 a.length c2, .slice (some ad) b.length c3] 27)).heap.size (w.alloc (.cells #[.int .i64 t, .int .i64 s, .slice A2 a.length c2, .slice (some ad) b.length c3] 27)) W))
    case atStart => exact ⟨0, rfl, ⟨rfl⟩, Nat.zero_le _, ⟨rfl⟩, hHB⟩
    case round =>
     clear hHB
     obtain ⟨c, rfl, hkz, hcl, hac, hbz⟩ := hrel
     by_cases hc : c < r.length
     ·obtain ⟨ad3, rfl, e7⟩ := at_num hC9 c hc
      have o7 := at_cell (below_step hB0 hbz.out) e7
      obtain ⟨x, hxe⟩ : ∃ x, r[c] = x := ⟨_, rfl⟩
      rw [hxe] at o7
      have hxe2 := Aside0.mk hxe
      have hc1 : ((c : Int) < (r.length : Int)) = True := eq_true (by omega)
      have h0c : (0 ≤ (c : Int)) = True := eq_true (by omega)
      clear e7 hxe
      have hwl := hwl2.out
      cases hxx : okX a.length x with
      | true =>
       go_wp2_with (go_at_call 71; (with_reducible refine (hin.out x 0 ((a.length : Int) - 1) _).mono ?_); go_loud (
        rintro e w2 ⟨he, hb2⟩
        rw [in_x h13.1 ha, hxx] at he
        subst he
        have hB2 := below_step hbz.out hb2))
       clear hwl
       go_roundg (r.length - (c + 1))
       case measure => have := hkz.out; omega
       case rel => exact ⟨c + 1, (by go_num), ⟨rfl⟩, by omega, ⟨all_take hc hac.out (by rw [hxe2.out]; exact hxx)⟩, ⟨hB2⟩⟩
      | false =>
       go_wp2_with (go_at_call 71; (with_reducible refine (hin.out x 0 ((a.length : Int) - 1) _).mono ?_); go_loud (
        rintro e w2 ⟨he, hb2⟩
        rw [in_x h13.1 ha, hxx] at he
        subst he
        have hB2 := below_step hbz.out hb2))
       go_ret
       have hf : r.all (okX a.length) = false := all_false (by rw [← hxe2.out]; exact List.getElem_mem hc) hxx
       have hf2 : b.all (okW t a.length) = false := all_false hrm (by unfold okW; rw [hf, Bool.and_false])
       rw [hf2]
       exact ⟨rfl, below_step hB0 hB2⟩
     ·have hc1 : ((c : Int) < (r.length : Int)) = False := eq_false (by omega)
      have hac2 := hac.out
      rw [List.take_of_length_le (by omega)] at hac2
      go_wp2_with fail
      go_roundg (b.length - (i + 1))
      case measure => have := hk.out; omega
      case rel => exact ⟨i + 1, (by go_num), ⟨rfl⟩, by omega, ⟨all_take hi hall.out (by rw [hr2.out]; unfold okW; rw [decide_eq_true hwq.out, hac2]; rfl)⟩, hbz⟩
   ·have hw1 : ((r.length : Int) = ((wdOf t.toNat : Nat) : Int)) = False := eq_false (by omega)
    have hw2 : ((r.length : Int) == ((wdOf t.toNat : Nat) : Int)) = false := by simp <;> omega
    have hw3 : ((r.length : Int) != ((wdOf t.toNat : Nat) : Int)) = true := by simp <;> omega
    go_wp2_with (go_at_call 94; (with_reducible refine (wide_impl (by have := ht2.out; omega) ht2.out.2 _).mono ?_); go_loud (
     rintro e w4 ⟨rfl, hb4⟩))
    go_ret
    have hf2 : b.all (okW t a.length) = false := all_false hrm (by unfold okW; rw [decide_eq_false hw, Bool.false_and])
    rw [hf2]
    exact ⟨rfl, below_step (below_step hB0 hbo.out) hb4⟩
  ·have hi1 : ((i : Int) < (b.length : Int)) = False := eq_false (by omega)
   have hall2 := hall.out
   rw [List.take_of_length_le (by omega)] at hall2
   go_wp2_with fail
   go_ret
   rw [hall2]
   exact ⟨rfl, below_step hB0 hbo.out⟩
end Go.Proofs.YtnjdkhnepmmfgaaDoor.Lr
namespace Go.Proofs.YtnjdkhnepmmfgaaDoor.Dfs
set_option linter.unusedVariables false
set_option linter.unusedSimpArgs false
open Go Go.RowKit Go.Proofs.YtnjdkhnepmmfgaaDoorW.PrintWords Go.Proofs.YtnjdkhnepmmfgaaDoorW.PrintLast Go.Proofs.YtnjdkhnepmmfgaaDoorW.PrintMore Kp Mg Mk Rt Tdy Op Lr Bld
theorem get_int (L : List Nat) (c : Nat) (h : c < (ints L).length) : (ints L)[c] = ((L.getD c 0 : Nat) : Int) := by
 have hl : c < L.length := by rw [ints_length] at h; exact h
 rw [ints_get _ c _ hl]
 simp [List.getD_eq_getElem?_getD, hl]
theorem v_succ {x : Nat} (h : x < 4611686018427387904) : Value.int .i64 (wrap64 ((x : Int) + 1)) = .int .i64 ((x + 1 : Nat) : Int) := by
 have : wrap64 ((x : Int) + 1) = ((x + 1 : Nat) : Int) := by unfold wrap64; omega
 rw [this]
theorem range_map_succ {α : Type} (f : Nat → α) (n : Nat) : (List.range (n + 1)).map f = (List.range n).map f ++ [f n] := by rw [List.range_succ, List.map_append]; rfl
set_option maxHeartbeats 8000000 in
set_option maxRecDepth 100000 in
theorem differ (gr gs t n1 n2 wd : Nat) (a1 : List Bool) (r1 : List (List Nat)) (a2 : List Bool) (r2 : List (List Nat)) (h1 : Closed wd r1 a1) (h2 : Closed wd r2 a2) (hn1 : r1.length = n1) (hn2 : r2.length = n2) (hwd : wd ≤ 30) (hs : n1 * n2 ≤ 2000000) (h01 : 0 < n1) (h02 : 0 < n2)
  (A2 : Option Addr) (c2 : Nat) (A3 : Option Addr) (c3 : Nat) (B2 : Option Addr) (d2 : Nat) (B3 : Option Addr) (d3 : Nat) (w : World) (hP : w.heap[gr]? = some (.cells #[.int .i64 (t : Int), .int .i64 0, .slice A2 n1 c2, .slice A3 n1 c3] 27 (0, 0))) (hQ : w.heap[gs]? = some (.cells #[.int .i64 (t : Int), .int .i64 0, .slice B2 n2 d2, .slice B3 n2 d3] 27 (0, 0)))
  (hA2 : Kd.C Kd.bool w A2 n1 a1) (hA3 : Kd.C Row w A3 n1 (r1.map ints)) (hB2 : Kd.C Kd.bool w B2 n2 a2) (hB3 : Kd.C Row w B3 n2 (r2.map ints)) :
  Calls Tryd.prog 119 #[.pointer (some ⟨gr, 0, none⟩), .pointer (some ⟨gs, 0, none⟩)] w fun e w' => ∃ vA vN, e = .returned (.agg #[.int .i64 (t : Int), .int .i64 0, vA, vN]) ∧
   Kd.R Kd.bool 4 w' w.heap.size (fun _ => True) vA (accsD (fun x y => x != y) a1 a2) ∧ Kd.R Row 75 w' w.heap.size (fun _ => True) vN ((rowsD r1 r2 wd).map ints) ∧ Below w.heap.size w w' := by
 have hb0 : Below w.heap.size w (w.alloc (.cells #[.int .i64 0, .int .i64 0, .slice none 0 0, .slice none 0 0] 27)) := below_alloc (Below.refl _ _) _
 have hP0 := blk_below hP hb0
 have hQ0 := blk_below hQ hb0
 have bZ := blk_new w (.cells #[.int .i64 0, .int .i64 0, .slice none 0 0, .slice none 0 0] 27)
 have hA2q := Aside0.mk (Kd.C_below hA2 hb0)
 have hA3q := Aside0.mk (Kd.C_below hA3 hb0)
 have hB2q := Aside0.mk (Kd.C_below hB2 hb0)
 have hB3q := Aside0.mk (Kd.C_below hB3 hb0)
 have hs0 : (w.alloc (.cells #[.int .i64 0, .int .i64 0, .slice none 0 0, .slice none 0 0] 27)).heap.size = w.heap.size + 1 := by simp
 have m2 : (w.alloc (.cells #[.int .i64 0, .int .i64 0, .slice none 0 0, .slice none 0 0] 27)).cell? ⟨gs, 2, none⟩ = some (.slice B2 n2 d2) := (blk_cell hQ0 2).trans rfl
 have ha1 : Aside0 (a1.length = n1) := ⟨by rw [← h1.len]; exact hn1⟩
 have ha2 : Aside0 (a2.length = n2) := ⟨by rw [← h2.len]; exact hn2⟩
 have hn1q := Aside0.mk hn1
 have hn2q := Aside0.mk hn2
 have hwdq := Aside0.mk hwd
 have hsq := Aside0.mk hs
 have hb1q : Aside0 (n1 ≤ 2000000) := ⟨Nat.le_trans (Nat.le_mul_of_pos_right n1 h02) hs⟩
 have hb2q : Aside0 (n2 ≤ 2000000) := ⟨Nat.le_trans (Nat.le_mul_of_pos_left n2 h01) hs⟩
 have hz0 : wrap64 0 = 0 := by unfold wrap64; decide
 clear hP hQ hA2 hA3 hB2 hB3 hn1 hn2 hwd hs
 go_enter Tryd.func119, Tryd.ntmps119
 go_wp2_with fail
 generalize (w.alloc (.cells #[.int .i64 0, .int .i64 0, .slice none 0 0, .slice none 0 0] 27)) = w0 at *
 clear m2
 have hbd : Below w0.heap.size w0 w0.drew := below_drew1 (Below.refl _ _)
 refine st 18 (fun w' => w'.cell? ⟨gr, 0, none⟩ = some (.int .i64 (t : Int)) ∧ w'.cell? ⟨gr, 1, none⟩ = some (.int .i64 0) ∧ w'.cell? ⟨gs, 1, none⟩ = some (.int .i64 0)) [17] (⟨(blk_cell (blk_below hP0 hbd) 0).trans rfl, (blk_cell (blk_below hP0 hbd) 1).trans rfl, (blk_cell (blk_below hQ0 hbd) 1).trans rfl⟩) (fun hHeld => ?_)
 refine pu 0 16 ?_
 refine pu 1 17 ?_
 refine pu 2 18 ?_
 refine pu 4 20 ?_
 refine pu 5 21 ?_
 refine pu 6 22 ?_
 refine pu 8 24 ?_
 refine pu 10 26 ?_
 refine pu 11 27 ?_
 refine pu 12 28 ?_
 refine tk 3 19 hHeld ?_
 refine tk 7 23 hHeld ?_
 refine pu 9 25 ?_
 refine tk 13 29 hHeld ?_
 refine pu 14 30 ?_
 refine pu 15 31 ?_
 refine on 16 6 (fun K hK => ?_)
 refine value_ (w1 := w0.drew.alloc (.cells #[.int .i64 0, .int .i64 0, .slice none 0 0, .slice none 0 0] 27)) (v := .pointer (some ⟨w0.drew.heap.size, 0, none⟩)) (by rfl) rfl (by first | (go_simp; done) | (go_simp; rfl)) ?_
 have hba : Below w0.heap.size w0 (w0.drew.alloc (.cells #[.int .i64 0, .int .i64 0, .slice none 0 0, .slice none 0 0] 27)) := below_alloc hbd _
 refine hK.out _ _ ⟨(blk_cell (blk_below hP0 hba) 0).trans rfl, (blk_cell (blk_below hP0 hba) 1).trans rfl, (blk_cell (blk_below hQ0 hba) 1).trans rfl⟩ (fun hHeld => ?_)
 clear hK K
 refine nm ?_
 obtain ⟨gX, hgX⟩ : ∃ gX, w0.drew.heap.size = gX := ⟨_, rfl⟩
 have bX0 := blk_new w0.drew (.cells #[.int .i64 0, .int .i64 0, .slice none 0 0, .slice none 0 0] 27)
 have bX1 := blk_new w0 (.cells #[.int .i64 0, .int .i64 0, .slice none 0 0, .slice none 0 0] 27)
 rw [show w0.heap.size = gX from hgX] at bX1
 rw [hgX] at bX0
 simp only [hgX]
 have e0 : (w0.alloc (.cells #[.int .i64 0, .int .i64 0, .slice none 0 0, .slice none 0 0] 27)).cell? ⟨gX, 0, none⟩ = some (.int .i64 0) := (blk_cell bX1 0).trans rfl
 have f0 : (w0.alloc (.cells #[.int .i64 0, .int .i64 0, .slice none 0 0, .slice none 0 0] 27)).frozen? ⟨gX, 0, none⟩ = false := blk_frozen bX1 0
 have e1 : (w0.alloc (.cells #[.int .i64 0, .int .i64 0, .slice none 0 0, .slice none 0 0] 27)).cell? ⟨gX, 1, none⟩ = some (.int .i64 0) := (blk_cell bX1 1).trans rfl
 have f1 : (w0.alloc (.cells #[.int .i64 0, .int .i64 0, .slice none 0 0, .slice none 0 0] 27)).frozen? ⟨gX, 1, none⟩ = false := blk_frozen bX1 1
 have e2 : (w0.alloc (.cells #[.int .i64 0, .int .i64 0, .slice none 0 0, .slice none 0 0] 27)).cell? ⟨gX, 2, none⟩ = some (.slice none 0 0) := (blk_cell bX1 2).trans rfl
 have f2 : (w0.alloc (.cells #[.int .i64 0, .int .i64 0, .slice none 0 0, .slice none 0 0] 27)).frozen? ⟨gX, 2, none⟩ = false := blk_frozen bX1 2
 have e3 : (w0.alloc (.cells #[.int .i64 0, .int .i64 0, .slice none 0 0, .slice none 0 0] 27)).cell? ⟨gX, 3, none⟩ = some (.slice none 0 0) := (blk_cell bX1 3).trans rfl
 have f3 : (w0.alloc (.cells #[.int .i64 0, .int .i64 0, .slice none 0 0, .slice none 0 0] 27)).frozen? ⟨gX, 3, none⟩ = false := blk_frozen bX1 3
 refine la 17 (fun K hK => ?_)
 refine sk ((((((w0.drew.alloc (.cells #[.int .i64 0, .int .i64 0, .slice none 0 0, .slice none 0 0] 27)).setCell ⟨gX, 0, none⟩ (.int .i64 (t : Int))).setCell ⟨gX, 1, none⟩ (.int .i64 0)).setCell ⟨gX, 2, none⟩ (.slice none 0 0)).setCell ⟨gX, 3, none⟩ (.slice none 0 0))) ?_
 refine hK.out _ _ ?_
 clear hK K
 refine dn ?_
 have hB : B w0 (t : Int) 0 gX none (.slice none 0 0) [] (.slice none 0 0) [] (((((w0.drew.alloc (.cells #[.int .i64 0, .int .i64 0, .slice none 0 0, .slice none 0 0] 27)).setCell ⟨gX, 0, none⟩ (.int .i64 (t : Int))).setCell ⟨gX, 1, none⟩ (.int .i64 0)).setCell ⟨gX, 2, none⟩ (.slice none 0 0)).setCell ⟨gX, 3, none⟩ (.slice none 0 0)) := B.start (blk_put (blk_put (blk_put (blk_put bX0 0 _ rfl) 1 _ rfl) 2 _ rfl) 3 _ rfl) ((((hba.setCell (by simp [← hgX]) _).setCell (by simp [← hgX]) _).setCell (by simp [← hgX]) _).setCell (by simp [← hgX]) _) (by simp [← hgX])
 clear e0 e1 e2 e3 f0 f1 f2 f3 bX0 hba hbd hHeld hgX hz0
 generalize (((((w0.drew.alloc (.cells #[.int .i64 0, .int .i64 0, .slice none 0 0, .slice none 0 0] 27)).setCell ⟨gX, 0, none⟩ (.int .i64 (t : Int))).setCell ⟨gX, 1, none⟩ (.int .i64 0)).setCell ⟨gX, 2, none⟩ (.slice none 0 0)).setCell ⟨gX, 3, none⟩ (.slice none 0 0)) = w3 at hB ⊢
 obtain ⟨FA, hFA⟩ : ∃ FA, Aside0 (FA = fun x => (a1.getD (x / n2) false != a2.getD (x % n2) false)) := ⟨_, ⟨rfl⟩⟩
 obtain ⟨GA, hGA⟩ : ∃ GA, Aside0 (GA = pairX r1 r2 wd) := ⟨_, ⟨rfl⟩⟩
 have h1q := Aside0.mk h1
 have h2q := Aside0.mk h2
 clear h1 h2
 go_wp2_with fail
 go_loopg [7] n1 (fun kq v7 W => ∃ (i : Nat) (vA vN : Value), v7 = .int .i64 (i : Int) ∧ Aside0 (kq = n1 - i) ∧ i ≤ n1 ∧ Aside0 (B w0 (t : Int) 0 gX none vA ((List.range (i * n2)).map FA) vN ((List.range (i * n2)).map GA) W))
 case atStart => exact ⟨0, _, _, rfl, ⟨rfl⟩, Nat.zero_le _, ⟨by rw [Nat.zero_mul]; exact hB⟩⟩
 case round =>
  clear hB
  obtain ⟨i, vA, vN, rfl, hk, hi, hB⟩ := hrel
  replace hB := hB.out
  have q2 : wr.cell? ⟨gr, 2, none⟩ = some (.slice A2 n1 c2) := (blk_cell (blk_below hP0 hB.bel) 2).trans rfl
  by_cases hlt : i < n1
  ·have hi1 : ((i : Int) < (n1 : Int)) = True := eq_true (by omega)
   have h0i : (0 ≤ (i : Int)) = True := eq_true (by omega)
   have hiq := Aside0.mk hlt
   go_wp2_with fail
   clear q2
   go_loopg [8] n2 (fun kz v8 W => ∃ (j : Nat) (vA vN : Value), v8 = .int .i64 (j : Int) ∧ Aside0 (kz = n2 - j) ∧ j ≤ n2 ∧ Aside0 (B w0 (t : Int) 0 gX none vA ((List.range (i * n2 + j)).map FA) vN ((List.range (i * n2 + j)).map GA) W))
   case atStart => exact ⟨0, _, _, rfl, ⟨rfl⟩, Nat.zero_le _, ⟨hB⟩⟩
   case round =>
    clear hB
    obtain ⟨j, vA, vN, rfl, hz, hj, hB⟩ := hrel
    replace hB := hB.out
    have q2 : wr.cell? ⟨gs, 2, none⟩ = some (.slice B2 n2 d2) := (blk_cell (blk_below hQ0 hB.bel) 2).trans rfl
    by_cases hlj : j < n2
    ·have hj1 : ((j : Int) < (n2 : Int)) = True := eq_true (by omega)
     have h0j : (0 ≤ (j : Int)) = True := eq_true (by omega)
     have hjq := Aside0.mk hlj
     obtain ⟨K0, hK0e⟩ : ∃ K0, i * n2 + j = K0 := ⟨_, rfl⟩
     have hK0l : Aside0 (K0 < n1 * n2) := ⟨by rw [← hK0e]; exact two_lt hlt hlj⟩
     have hK0 : Aside0 (K0 < 2000000) := ⟨Nat.lt_of_lt_of_le hK0l.out hsq.out⟩
     have hdv := Aside0.mk (two_div (x := i) hlj)
     rw [hK0e] at hB hdv
     have hK0eq := Aside0.mk hK0e
     clear hK0e
     have hb := hB.born
     obtain ⟨x3, rfl, X5, c5, kx3, _, hCx⟩ := at_row hA3q.out i (by rw [List.length_map, hn1q.out]; exact hlt)
     obtain ⟨y3, rfl, Y5, d5, ky3, _, hCy⟩ := at_row hB3q.out j (by rw [List.length_map, hn2q.out]; exact hlj)
     have ex : (r1.map ints)[i]'(by rw [List.length_map, hn1q.out]; exact hlt) = ints (r1.getD i []) := by simp [List.getD_eq_getElem?_getD, show i < r1.length by rw [hn1q.out]; exact hlt]
     have ey : (r2.map ints)[j]'(by rw [List.length_map, hn2q.out]; exact hlj) = ints (r2.getD j []) := by simp [List.getD_eq_getElem?_getD, show j < r2.length by rw [hn2q.out]; exact hlj]
     have lx : (ints (r1.getD i [])).length = wd := by rw [ints_length, List.getD_eq_getElem?_getD, List.getElem?_eq_getElem (by rw [hn1q.out]; exact hlt)]; exact h1q.out.wide _ (List.getElem_mem _)
     have ly : (ints (r2.getD j [])).length = wd := by rw [ints_length, List.getD_eq_getElem?_getD, List.getElem?_eq_getElem (by rw [hn2q.out]; exact hlj)]; exact h2q.out.wide _ (List.getElem_mem _)
     rw [ex, lx] at kx3 hCx
     rw [ey, ly] at ky3 hCy
     have hCxq := Aside0.mk hCx
     have hCyq := Aside0.mk hCy
     have lxq := Aside0.mk lx
     have lyq := Aside0.mk ly
     clear ex ey lx ly hCx hCy
     go_wp2_with fail
     clear q2 hB
     go_loopg [9, 10] wd (fun ky v9 v10 W => ∃ (c : Nat) (r : List Nat) (Ar : Option Addr) (cr : Nat), v9 = .slice Ar c cr ∧ v10 = .int .i64 (c : Int) ∧ Aside0 (ky = wd - c) ∧ c ≤ wd ∧ Aside0 (r.length = c) ∧ Aside0 (r = (List.range c).map fun c => ((r1.getD i []).getD c 0) * n2 + (r2.getD j []).getD c 0) ∧ Aside0 (Br w0 (t : Int) 0 gX (.slice Ar c cr) r vA ((List.range K0).map FA) vN ((List.range K0).map GA) W))
     case atStart => exact ⟨0, [], _, _, rfl, rfl, ⟨rfl⟩, Nat.zero_le _, ⟨rfl⟩, ⟨rfl⟩, ⟨hb⟩⟩
     case round =>
      clear hb
      obtain ⟨c, r, Ar, cr, rfl, rfl, hy, hc, hrl, hr, h⟩ := hrel
      replace h := h.out
      have q3 : wr.cell? ⟨gr, 3, none⟩ = some (.slice (some x3) n1 c3) := (blk_cell (blk_below hP0 h.g.bel) 3).trans rfl
      have qx3 := at_cell h.g.bel kx3
      by_cases hlc : c < wd
      ·have hc1 : ((c : Int) < (wd : Int)) = True := eq_true (by omega)
       have h0c : (0 ≤ (c : Int)) = True := eq_true (by omega)
       obtain ⟨x5, rfl, kx5⟩ := at_num hCxq.out c (by rw [lxq.out]; exact hlc)
       obtain ⟨y5, rfl, ky5⟩ := at_num hCyq.out c (by rw [lyq.out]; exact hlc)
       have ex := get_int (r1.getD i []) c (by rw [lxq.out]; exact hlc)
       have ey := get_int (r2.getD j []) c (by rw [lyq.out]; exact hlc)
       rw [ex] at kx5
       rw [ey] at ky5
       have hX1 : (r1.getD i []).getD c 0 < r1.length := h1q.out.step (by rw [hn1q.out]; exact hiq.out) hlc
       have hY1 : (r2.getD j []).getD c 0 < r2.length := h2q.out.step (by rw [hn2q.out]; exact hjq.out) hlc
       rw [hn1q.out] at hX1
       rw [hn2q.out] at hY1
       obtain ⟨X, hX⟩ : ∃ X, (r1.getD i []).getD c 0 = X := ⟨_, rfl⟩
       obtain ⟨Y, hY⟩ : ∃ Y, (r2.getD j []).getD c 0 = Y := ⟨_, rfl⟩
       rw [hX] at kx5 hX1
       rw [hY] at ky5 hY1
       obtain ⟨U, hU⟩ : ∃ U, X * n2 = U := ⟨_, rfl⟩
       obtain ⟨V, hV⟩ : ∃ V, U + Y = V := ⟨_, rfl⟩
       have hVl : V < 2000000 := by have := two_lt hX1 hY1; have := hsq.out; omega
       have hw1 : wrap64 ((X : Int) * (n2 : Int)) = (U : Int) := by rw [← hU]; unfold wrap64; have e9 : ((X * n2 : Nat) : Int) = (X : Int) * (n2 : Int) := (by simp); rw [← e9, hU]; omega
       have hw2 : wrap64 ((U : Int) + (Y : Int)) = (V : Int) := by unfold wrap64; omega
       have hVq : Aside0 ((r1.getD i []).getD c 0 * n2 + (r2.getD j []).getD c 0 = V) := ⟨by rw [hX, hY, hU, hV]⟩
       clear ex ey hX hY hU hV hX1 hY1 hVl
       go_wp2_with fail
       clear q3 qx3
       have hS13 : ∀ W', Below w0.heap.size w0 W' → (fun w' => w'.cell? ⟨gr, 3, none⟩ = some (.slice (some x3) n1 c3) ∧ w'.cell? (x3.add i) = some (.slice (some x5) wd c5) ∧ w'.cell? (x5.add c) = some (.int .i64 (X : Int)) ∧ w'.cell? ⟨gs, 3, none⟩ = some (.slice (some y3) n2 d3) ∧ w'.cell? (y3.add j) = some (.slice (some y5) wd d5) ∧ w'.cell? (y5.add c) = some (.int .i64 (Y : Int))) W' := fun W' hb => ⟨(blk_cell (blk_below hP0 hb) 3).trans rfl, at_cell hb kx3, at_cell hb kx5, (blk_cell (blk_below hQ0 hb) 3).trans rfl, at_cell hb ky3, at_cell hb ky5⟩
       have h1 := h.step (below_drew1 (Below.refl _ _))
       refine st 27 (fun w' => w'.cell? ⟨gr, 3, none⟩ = some (.slice (some x3) n1 c3) ∧ w'.cell? (x3.add i) = some (.slice (some x5) wd c5) ∧ w'.cell? (x5.add c) = some (.int .i64 (X : Int)) ∧ w'.cell? ⟨gs, 3, none⟩ = some (.slice (some y3) n2 d3) ∧ w'.cell? (y3.add j) = some (.slice (some y5) wd d5) ∧ w'.cell? (y5.add c) = some (.int .i64 (Y : Int))) [] (hS13 _ h1.g.bel) (fun hHeld => ?_)
       refine pu 0 63 ?_
       refine pu 1 64 ?_
       refine pu 2 65 ?_
       refine pu 3 66 ?_
       refine pu 5 68 ?_
       refine pu 8 71 ?_
       refine pu 11 74 ?_
       refine pu 13 76 ?_
       refine pu 14 77 ?_
       refine pu 15 78 ?_
       refine pu 17 80 ?_
       refine pu 20 83 ?_
       refine tk 4 67 hHeld ?_
       refine pu 6 69 ?_
       refine tk 7 70 hHeld ?_
       refine pu 9 72 ?_
       refine tk 10 73 hHeld ?_
       refine pu 12 75 ?_
       refine tk 16 79 hHeld ?_
       refine pu 18 81 ?_
       refine tk 19 82 hHeld ?_
       refine pu 21 84 ?_
       refine tk 22 85 hHeld ?_
       refine pu 23 86 ?_
       refine on 24 87 (fun K hK => ?_)
       refine value_ (w1 := wr.drew.alloc (.cells #[.int .i64 (V : Int)] 2)) (v := .slice (some ⟨wr.drew.heap.size, 0, none⟩) 1 1) (by rfl) rfl (by first | (go_simp; done) | (go_simp; rfl)) ?_
       refine hK.out _ _ (hS13 _ (below_alloc h1.g.bel _)) (fun hHeld => ?_)
       clear hK K
       refine nm ?_
       refine on 25 88 (fun K hK => ?_)
       refine Kd.R_append_step (Kd.int .i64) (w0 := w0) w0.heap.size (by rfl) (.tmp 63) (.tmp 87) 75 2 (.int .i64 0) 8 rfl Tryd.underlying75 Ro.info_long1 rfl (by decide) (by decide) (.slice Ar c cr) (ints r) (V : Int) [.int .i64 (V : Int)] (fun k => True ∧ some k ≠ vN.ownBlock) (fun _ => False) rfl rfl rfl (fun _ h => h.elim) (fun k hk => ⟨trivial, Kd.fresh_ok h1.g.nxt k hk⟩) h1.row h1.g.bel (Below.size h1.g.bel) (by rw [ints_length]; have := hrl.out; have := hwdq.out; omega) ?_
       intro v6 w6 hR6 hb6 hg6 hat6
       obtain ⟨A6, c6, hv6⟩ := Kd.R_slice hR6
       rw [List.length_append, List.length_singleton, ints_length, hrl.out] at hv6
       subst hv6
       have er : ints r ++ [(V : Int)] = ints (r ++ [V]) := by simp [ints, GwI.ints]
       rw [er] at hR6
       have h2 := h1.more hg6 hat6 hR6 hb6
       refine hK.out _ _ (hS13 _ hb6) (fun hHeld => ?_)
       clear hK K
       refine nm ?_
       refine pu 26 9 ?_
       refine dn ?_
       go_wp2_with fail
       clear hw1 hw2
       go_roundg (wd - (c + 1))
       case measure => have := hy.out; omega
       case rel => exact ⟨c + 1, r ++ [V], _, _, rfl, v_succ (by have := hwdq.out; omega), ⟨rfl⟩, by omega, ⟨by rw [List.length_append, List.length_singleton, hrl.out]⟩, ⟨by rw [range_map_succ, ← hr.out, hVq.out]⟩, ⟨h2⟩⟩
      ·have hc1 : ((c : Int) < (wd : Int)) = False := eq_false (by omega)
       have hcc : c = wd := by omega
       subst hcc
       have hrG : ints r = ints (GA K0) := by rw [hGA.out]; unfold pairX; rw [hn2q.out, hdv.out.1, hdv.out.2, ← hr.out]
       obtain ⟨x2, rfl, kx2⟩ := at_mark hA2q.out i (by rw [ha1.out]; exact hiq.out)
       obtain ⟨y2, rfl, ky2⟩ := at_mark hB2q.out j (by rw [ha2.out]; exact hjq.out)
       have hFA2 : Aside0 ((List.range K0).map FA ++ [a1[i]'(by rw [ha1.out]; exact hiq.out) != a2[j]'(by rw [ha2.out]; exact hjq.out)] = (List.range K0).map FA ++ [FA K0]) := ⟨by rw [hFA.out]; simp only; rw [hdv.out.1, hdv.out.2]; simp [List.getD_eq_getElem?_getD, show i < a1.length by rw [ha1.out]; exact hiq.out, show j < a2.length by rw [ha2.out]; exact hjq.out]⟩
       replace hFA := hFA2
       clear hFA2
       generalize a1[i]'(by rw [ha1.out]; exact hiq.out) = p at *
       generalize a2[j]'(by rw [ha2.out]; exact hjq.out) = q at *
       go_wp2_with fail
       clear q3 qx3
       have hS14 : ∀ W', Below w0.heap.size w0 W' → W'.cell? ⟨gX, 2, none⟩ = some vA → (fun w' => w'.cell? ⟨gX, 2, none⟩ = some vA ∧ w'.cell? ⟨gr, 2, none⟩ = some (.slice (some x2) n1 c2) ∧ w'.cell? (x2.add i) = some (.bool p) ∧ w'.cell? ⟨gs, 2, none⟩ = some (.slice (some y2) n2 d2) ∧ w'.cell? (y2.add j) = some (.bool q)) W' := fun W' hb hx => ⟨hx, (blk_cell (blk_below hP0 hb) 2).trans rfl, at_cell hb kx2, (blk_cell (blk_below hQ0 hb) 2).trans rfl, at_cell hb ky2⟩
       have h1 := h.step (below_drew1 (Below.refl _ _))
       refine st 21 (fun w' => w'.cell? ⟨gX, 2, none⟩ = some vA ∧ w'.cell? ⟨gr, 2, none⟩ = some (.slice (some x2) n1 c2) ∧ w'.cell? (x2.add i) = some (.bool p) ∧ w'.cell? ⟨gs, 2, none⟩ = some (.slice (some y2) n2 d2) ∧ w'.cell? (y2.add j) = some (.bool q)) [20] (hS14 _ h1.g.bel ((blk_cell h1.g.bX 2).trans rfl)) (fun hHeld => ?_)
       refine pu 0 89 ?_
       refine pu 2 91 ?_
       refine pu 3 92 ?_
       refine pu 4 93 ?_
       refine pu 6 95 ?_
       refine pu 9 98 ?_
       refine pu 10 99 ?_
       refine pu 11 100 ?_
       refine pu 13 102 ?_
       refine tk 1 90 hHeld ?_
       refine tk 5 94 hHeld ?_
       refine pu 7 96 ?_
       refine tk 8 97 hHeld ?_
       refine tk 12 101 hHeld ?_
       refine pu 14 103 ?_
       refine tk 15 104 hHeld ?_
       refine pu 16 105 ?_
       refine on 17 106 (fun K hK => ?_)
       refine value_ (w1 := wr.drew.alloc (.cells #[.bool (p != q)] 4)) (v := .slice (some ⟨wr.drew.heap.size, 0, none⟩) 1 1) (by rfl) rfl (by first | (go_simp; done) | (go_simp; rfl)) ?_
       refine hK.out _ _ (hS14 _ (below_alloc h1.g.bel _) ((blk_cell (blk_alloc h1.g.bX _) 2).trans rfl)) (fun hHeld => ?_)
       clear hK K
       refine nm ?_
       refine on 18 107 (fun K hK => ?_)
       refine Kd.R_append_step Kd.bool (w0 := w0) w0.heap.size (by rfl) (.tmp 90) (.tmp 106) 22 4 (.bool false) 1 rfl Tryd.underlying22 GwI.info_bool rfl (by decide) (by decide) vA ((List.range K0).map FA) (p != q) [.bool (p != q)] (fun _ => True) (fun _ => False) rfl rfl rfl (fun _ h => h.elim) (fun _ _ => trivial) h1.g.acc h1.g.bel (Below.size h1.g.bel) (by have := hK0.out; simp <;> omega) ?_
       intro v6 w6 hR6 hb6 hg6 hat6
       obtain ⟨A6, c6, hv6⟩ := Kd.R_slice hR6
       obtain ⟨n6, hn6⟩ : ∃ n, ((List.range K0).map FA ++ [p != q]).length = n := ⟨_, rfl⟩
       rw [hn6] at hv6
       subst hv6
       clear hn6
       rw [hFA.out, ← range_map_succ] at hR6
       obtain ⟨b8, h7⟩ := h1.acc hg6 hR6 hb6
       refine hK.out _ _ (hS14 _ hb6 ((blk_cell b8 2).trans rfl)) (fun hHeld => ?_)
       clear hK K
       refine nm ?_
       refine pu 19 108 ?_
       have c83 : w6.cell? ⟨gX, 2, none⟩ = some vA := (blk_cell b8 2).trans rfl
       have f83 : w6.frozen? ⟨gX, 2, none⟩ = false := blk_frozen b8 2
       refine la 20 (fun K hK => ?_)
       refine sk (w6.setCell ⟨gX, 2, none⟩ (.slice A6 n6 c6)) ?_
       refine hK.out _ _ ?_
       clear hK
       refine dn ?_
       clear h1 h c83 f83 b8 hR6 hg6 hb6 hHeld hS14
       generalize w6.setCell ⟨gX, 2, none⟩ (.slice A6 n6 c6) = w7 at h7 ⊢
       have k3 : w7.cell? ⟨gX, 3, none⟩ = some vN := (blk_cell h7.g.bX 3).trans rfl
       go_wp2_with ((with_reducible refine gate_builtin (b := .append) (xs := #[.tmp 110, .tmp 112]) rfl ?_); go_loud (
        at_builtin
        refine R_append' Row (w0 := w0) w0.heap.size rfl (.tmp 110) (.tmp 112) 23 75 (.slice none 0 0) 24 rfl Tryd.underlying23 Ro.info_longs rfl (by decide) (by decide) vN (((List.range K0).map GA).map ints) (ints r) [.slice Ar c cr] (fun _ => True) (fun k => True ∧ some k ≠ vN.ownBlock) _ (by simp) rfl rfl (by have q := h7.row; have hl : (ints r).length = c := (by rw [ints_length]; exact hrl.out); exact ⟨_, rfl, q⟩) (fun k hk => hk) (fun k hk => trivial) (Kd.R_mono h7.g.nxt (fun k hk => trivial)) h7.g.bel (Below.size h7.g.bel) (by have := hK0.out; simp <;> omega) ?_
        intro v8 w8 hR8 hb8 hg8 hat8
        obtain ⟨A8, c8, hv8⟩ := Kd.R_slice hR8
        obtain ⟨n8, hn8⟩ : ∃ n, (((List.range K0).map GA).map ints ++ [ints r]).length = n := ⟨_, rfl⟩
        rw [hn8] at hv8
        subst hv8
        clear hn8
        have er : ((List.range K0).map GA).map ints ++ [ints r] = ((List.range (K0 + 1)).map GA).map ints := (by rw [hrG, range_map_succ, List.map_append]; rfl)
        rw [er] at hR8
        obtain ⟨b9, h9⟩ := h7.nxt hg8 hR8 hb8
        have c84 : w8.cell? ⟨gX, 3, none⟩ = some vN := (blk_cell b9 3).trans rfl
        have f84 : w8.frozen? ⟨gX, 3, none⟩ = false := blk_frozen b9 3))
       go_roundg (n2 - (j + 1))
       case measure => have := hz.out; have := hjq.out; omega
       case rel => exact ⟨j + 1, _, _, v_succ (by have := hb2q.out; have := hjq.out; omega), ⟨rfl⟩, (by have := hjq.out; omega), ⟨by rw [show i * n2 + (j + 1) = K0 + 1 by have := hK0eq.out; omega]; exact h9⟩⟩
    ·have hj1 : ((j : Int) < (n2 : Int)) = False := eq_false (by omega)
     have hjj : j = n2 := by omega
     go_wp2_with fail
     go_roundg (n1 - (i + 1))
     case measure => have := hk.out; have := hiq.out; omega
     case rel => exact ⟨i + 1, _, _, v_succ (by have := hb1q.out; have := hiq.out; omega), ⟨rfl⟩, (by have := hiq.out; omega), ⟨by rw [show (i + 1) * n2 = i * n2 + j by rw [Nat.add_mul, Nat.one_mul, hjj]]; exact hB⟩⟩
  ·have hi1 : ((i : Int) < (n1 : Int)) = False := eq_false (by omega)
   have hii : i = n1 := by omega
   rw [hii] at hB
   have q0 := (blk_cell hB.bX 0).trans (rfl : _ = some (Value.int .i64 (t : Int)))
   obtain ⟨A5, c5, e5⟩ := Kd.R_slice hB.acc
   obtain ⟨A6, c6, e6⟩ := Kd.R_slice hB.nxt
   obtain ⟨n5, hn5⟩ : ∃ n, ((List.range (n1 * n2)).map FA).length = n := ⟨_, rfl⟩
   obtain ⟨n6, hn6⟩ : ∃ n, (((List.range (n1 * n2)).map GA).map ints).length = n := ⟨_, rfl⟩
   rw [hn5] at e5
   rw [hn6] at e6
   subst e5 e6
   clear hn5 hn6
   have q1 : wr.cell? ⟨gX, 1, none⟩ = some (.int .i64 0) := (blk_cell hB.bX 1).trans rfl
   have qA : wr.cell? ⟨gX, 2, none⟩ = some (.slice A5 n5 c5) := (blk_cell hB.bX 2).trans rfl
   have qN : wr.cell? ⟨gX, 3, none⟩ = some (.slice A6 n6 c6) := (blk_cell hB.bX 3).trans rfl
   have b0 := blk_below bZ hB.bel
   have e0 : wr.cell? ⟨w.heap.size, 0, none⟩ = some (.int .i64 0) := (blk_cell b0 0).trans rfl
   have f0 : wr.frozen? ⟨w.heap.size, 0, none⟩ = false := blk_frozen b0 0
   have e1 : wr.cell? ⟨w.heap.size, 1, none⟩ = some (.int .i64 0) := (blk_cell b0 1).trans rfl
   have f1 : wr.frozen? ⟨w.heap.size, 1, none⟩ = false := blk_frozen b0 1
   have e2 : wr.cell? ⟨w.heap.size, 2, none⟩ = some (.slice none 0 0) := (blk_cell b0 2).trans rfl
   have f2 : wr.frozen? ⟨w.heap.size, 2, none⟩ = false := blk_frozen b0 2
   have e3 : wr.cell? ⟨w.heap.size, 3, none⟩ = some (.slice none 0 0) := (blk_cell b0 3).trans rfl
   have f3 : wr.frozen? ⟨w.heap.size, 3, none⟩ = false := blk_frozen b0 3
   go_wp2_with fail
   have b1 := blk_put b0 0 (.int .i64 (t : Int)) rfl
   have b2 := blk_put b1 1 (.int .i64 0) rfl
   have b3 := blk_put b2 2 (.slice A5 n5 c5) rfl
   have b4 := blk_put b3 3 (.slice A6 n6 c6) rfl
   have hB9 := below_step hb0 (hB.bel)
   have eA : accsD (fun x y => x != y) a1 a2 = (List.range (n1 * n2)).map FA := by unfold accsD; rw [ha1.out, ha2.out, hFA.out]
   have eN : (rowsD r1 r2 wd).map ints = ((List.range (n1 * n2)).map GA).map ints := by unfold rowsD; rw [hn1q.out, hn2q.out, hGA.out]
   rw [eA, eN]
   refine bodyPost_ret (results_cell_row rfl _ _ w.heap.size 27 #[.int .i64 (t : Int), .int .i64 0, .slice A5 n5 c5, .slice A6 n6 c6] (0, 0) _ rfl b4 Tryd.underlying27 rfl (by kernel_rfl)) rfl ⟨_, _, rfl, ?_, ?_, ?_⟩
   ·exact Kd.R_lower (Kd.R_set (Kd.R_set (Kd.R_set (Kd.R_set hB.acc b0 (by decide) 0 _) b1 (by decide) 1 _) b2 (by decide) 2 _) b3 (by decide) 3 _) (by omega)
   ·exact Kd.R_lower (Kd.R_set (Kd.R_set (Kd.R_set (Kd.R_set (Kd.R_mono hB.nxt (fun k hk => trivial)) b0 (by decide) 0 _) b1 (by decide) 1 _) b2 (by decide) 2 _) b3 (by decide) 3 _) (by omega)
   ·exact (((hB9.setCell (by simp) _).setCell (by simp) _).setCell (by simp) _).setCell (by simp) _
end Go.Proofs.YtnjdkhnepmmfgaaDoor.Dfs
namespace Go.Proofs.YtnjdkhnepmmfgaaDoor.Pts
set_option linter.unusedVariables false
set_option linter.unusedSimpArgs false
open Go Go.RowKit Go.Proofs.YtnjdkhnepmmfgaaDoorW.PrintWords Go.Proofs.YtnjdkhnepmmfgaaDoorW.PrintLast Go.Proofs.YtnjdkhnepmmfgaaDoorW.PrintMore Kp Mg Mk Tdy Op Lr Dfs
/-- What stands in memory while the marks are laid anew. -/
structure Pt (w0 : World) (t : Int) (gX g n c : Nat) (A6 : Option Addr) (n6 c6 : Nat) (l : List Bool) (rs : List (List Int)) (W : World) : Prop where
 bX : W.heap[gX]? = some (.cells #[.int .i64 t, .int .i64 0, .slice (some ⟨g, 0, none⟩) n c, .slice A6 n6 c6] 27 (0, 0))
 acc : Kd.R Kd.bool 4 W w0.heap.size (fun _ => True) (.slice (some ⟨g, 0, none⟩) n c) l
 nxt : Kd.R Row 75 W w0.heap.size (fun _ => True) (.slice A6 n6 c6) rs
 bel : Below w0.heap.size w0 W
section
variable {w0 W : World} {t : Int} {gX g n c : Nat} {A6 : Option Addr} {n6 c6 : Nat} {l : List Bool} {rs : List (List Int)}
theorem Pt.put (h : Pt w0 t gX g n c A6 n6 c6 l rs W) (hl : 0 < l.length) (i : Nat) (v : Bool) : Pt w0 t gX g n c A6 n6 c6 (l.set i v) rs (W.setCell ⟨g, i, none⟩ (.bool v)) := by
 obtain ⟨g', cg, hv, hgb, _, cells, hcg⟩ := Kd.R_form h.acc hl
 obtain ⟨rfl, _⟩ : g = g' ∧ True := by
  simp only [Value.slice.injEq, Option.some.injEq, Addr.mk.injEq] at hv
  exact ⟨hv.1.1, trivial⟩
 have h2 := Kd.R_putn h.acc (i : Int) v
 rw [Int.toNat_natCast] at h2
 refine ⟨(Keep.set W ⟨g, i, none⟩ (.bool v)).obj h.bX (fun e => ?_), h2, Kd.R_set h.nxt hcg (by decide) i _, h.bel.setCell hgb _⟩
 have e2 : gX = g := by injection e
 have hb := h.bX
 rw [e2] at hb
 rw [hcg] at hb
 injection hb with hb
 injection hb with _ hb
 exact absurd hb (by decide)
theorem Pt.at_ (h : Pt w0 t gX g n c A6 n6 c6 l rs W) {i : Nat} (hi : i < l.length) : W.frozen? ⟨g, i, none⟩ = false ∧ ∃ x, W.cell? ⟨g, i, none⟩ = some x := by
 obtain ⟨g', cg, hv, hgb, _, cells, hcg⟩ := Kd.R_form h.acc (by omega)
 obtain ⟨rfl, _⟩ : g = g' ∧ True := by
  simp only [Value.slice.injEq, Option.some.injEq, Addr.mk.injEq] at hv
  exact ⟨hv.1.1, trivial⟩
 obtain ⟨ad, e1, k1⟩ := at_mark (Kd.R_reads' h.acc).2.2 i hi
 cases e1
 have ea : (⟨g, 0, none⟩ : Addr).add i = ⟨g, i, none⟩ := by
  by_cases h0 : i = 0
  ·subst h0; rfl
  ·simp [Addr.add, h0]
 rw [ea] at k1
 exact ⟨blk_frozen hcg i, _, k1⟩
end
set_option maxHeartbeats 8000000 in
set_option maxRecDepth 100000 in
theorem pairsBoth (gr gs t n1 n2 wd : Nat) (a1 : List Bool) (r1 : List (List Nat)) (a2 : List Bool) (r2 : List (List Nat)) (h1 : Closed wd r1 a1) (h2 : Closed wd r2 a2) (hn1 : r1.length = n1) (hn2 : r2.length = n2) (hwd : wd ≤ 30) (hs : n1 * n2 ≤ 2000000) (h01 : 0 < n1) (h02 : 0 < n2)
  (A2 : Option Addr) (c2 : Nat) (A3 : Option Addr) (c3 : Nat) (B2 : Option Addr) (d2 : Nat) (B3 : Option Addr) (d3 : Nat) (w : World) (hP : w.heap[gr]? = some (.cells #[.int .i64 (t : Int), .int .i64 0, .slice A2 n1 c2, .slice A3 n1 c3] 27 (0, 0))) (hQ : w.heap[gs]? = some (.cells #[.int .i64 (t : Int), .int .i64 0, .slice B2 n2 d2, .slice B3 n2 d3] 27 (0, 0)))
  (hA2 : Kd.C Kd.bool w A2 n1 a1) (hA3 : Kd.C Row w A3 n1 (r1.map ints)) (hB2 : Kd.C Kd.bool w B2 n2 a2) (hB3 : Kd.C Row w B3 n2 (r2.map ints)) :
  Calls Tryd.prog 112 #[.pointer (some ⟨gr, 0, none⟩), .pointer (some ⟨gs, 0, none⟩), .int .i64 1] w fun e w' => ∃ vA vN, e = .returned (.agg #[.int .i64 (t : Int), .int .i64 0, vA, vN]) ∧
   Kd.R Kd.bool 4 w' w.heap.size (fun _ => True) vA (accsD (fun x y => x && y) a1 a2) ∧ Kd.R Row 75 w' w.heap.size (fun _ => True) vN ((rowsD r1 r2 wd).map ints) ∧ Below w.heap.size w w' := by
 have hb0 : Below w.heap.size w (w.alloc (.cells #[.int .i64 0, .int .i64 0, .slice none 0 0, .slice none 0 0] 27)) := below_alloc (Below.refl _ _) _
 have hP0 := blk_below hP hb0
 have hQ0 := blk_below hQ hb0
 have bZ := blk_new w (.cells #[.int .i64 0, .int .i64 0, .slice none 0 0, .slice none 0 0] 27)
 have hA2q := Aside0.mk (Kd.C_below hA2 hb0)
 have hB2q := Aside0.mk (Kd.C_below hB2 hb0)
 have ha1 : Aside0 (a1.length = n1) := ⟨by rw [← h1.len]; exact hn1⟩
 have ha2 : Aside0 (a2.length = n2) := ⟨by rw [← h2.len]; exact hn2⟩
 have hsq := Aside0.mk hs
 have hb1q : Aside0 (n1 ≤ 2000000) := ⟨Nat.le_trans (Nat.le_mul_of_pos_right n1 h02) hs⟩
 have hb2q : Aside0 (n2 ≤ 2000000) := ⟨Nat.le_trans (Nat.le_mul_of_pos_left n2 h01) hs⟩
 have hdf := Aside0.mk (Dfs.differ gr gs t n1 n2 wd a1 r1 a2 r2 h1 h2 hn1 hn2 hwd hs h01 h02 A2 c2 A3 c3 B2 d2 B3 d3 (w.alloc (.cells #[.int .i64 0, .int .i64 0, .slice none 0 0, .slice none 0 0] 27)) hP0 hQ0 (Kd.C_below hA2 hb0) (Kd.C_below hA3 hb0) (Kd.C_below hB2 hb0) (Kd.C_below hB3 hb0))
 have hN0 : 0 < n1 * n2 := Nat.mul_pos h01 h02
 have hbl : Aside0 ((accsD (fun x y => x != y) a1 a2).length = n1 * n2) := ⟨by unfold accsD; rw [List.length_map, List.length_range, ha1.out, ha2.out]⟩
 obtain ⟨N, hN'⟩ : ∃ N, n1 * n2 = N := ⟨_, rfl⟩
 rw [hN'] at hbl hN0
 have hN := Aside0.mk hN'
 clear hP hQ hA2 hA3 hB2 hB3 h1 h2 hn1 hn2 hwd hs h01 h02 hN'
 obtain ⟨RS, hRS⟩ : ∃ RS, (rowsD r1 r2 wd).map ints = RS := ⟨_, rfl⟩
 rw [hRS] at hdf ⊢
 clear hRS
 go_enter Tryd.func112, Tryd.ntmps112
 go_wp2_with (go_at_call 119; go_loud (
  with_reducible refine hdf.out.mono ?_
  rintro e w2 ⟨vA, vN, rfl, q2, q3, hb2⟩
  obtain ⟨g, c, e2, hgb, _⟩ := Kd.R_form q2 (by rw [hbl.out]; exact hN0)
  rw [hbl.out] at e2
  obtain ⟨A6, c6, e6⟩ := Kd.R_slice q3
  obtain ⟨n6, hn6⟩ : ∃ n, RS.length = n := ⟨_, rfl⟩
  rw [hn6] at e6
  subst e2 e6
  clear hn6
  have hb2a : Below w2.heap.size w2 (w2.alloc (.cells #[.int .i64 (t : Int), .int .i64 0, .slice (some ⟨g, 0, none⟩) N c, .slice A6 n6 c6] 27)) := below_alloc (Below.refl _ _) _
  have hB2a := below_step hb2 hb2a
  have m2 : (w2.alloc (.cells #[.int .i64 (t : Int), .int .i64 0, .slice (some ⟨g, 0, none⟩) N c, .slice A6 n6 c6] 27)).cell? ⟨gs, 2, none⟩ = some (.slice B2 n2 d2) := (blk_cell (blk_below hQ0 hB2a) 2).trans rfl))
 have hT0 : Pt (w.alloc (.cells #[.int .i64 0, .int .i64 0, .slice none 0 0, .slice none 0 0] 27)) (t : Int) w2.heap.size g N c A6 n6 c6 (accsD (fun x y => x != y) a1 a2) RS (w2.alloc (.cells #[.int .i64 (t : Int), .int .i64 0, .slice (some ⟨g, 0, none⟩) N c, .slice A6 n6 c6] 27)) := ⟨blk_new _ _, Kd.R_below q2 hb2a, Kd.R_below q3 hb2a, hB2a⟩
 clear m2 q2 q3 hb2 hb2a hB2a hdf hgb
 have hs0 : (w.alloc (.cells #[.int .i64 0, .int .i64 0, .slice none 0 0, .slice none 0 0] 27)).heap.size = w.heap.size + 1 := by simp
 generalize (w.alloc (.cells #[.int .i64 0, .int .i64 0, .slice none 0 0, .slice none 0 0] 27)) = w0 at *
 generalize w2.heap.size = gX at *
 generalize (w2.alloc (.cells #[.int .i64 (t : Int), .int .i64 0, .slice (some ⟨g, 0, none⟩) N c, .slice A6 n6 c6] 27)) = w3 at *
 obtain ⟨FA, hFA⟩ : ∃ FA, Aside0 (FA = fun x => (fun x y => x && y) (a1.getD (x / n2) false) (a2.getD (x % n2) false)) := ⟨_, ⟨rfl⟩⟩
 go_loopg [9] n1 (fun kq v9 W => ∃ (i : Nat) (l : List Bool), v9 = .int .i64 (i : Int) ∧ Aside0 (kq = n1 - i) ∧ i ≤ n1 ∧ Aside0 (l = (List.range (i * n2)).map FA ++ (accsD (fun x y => x != y) a1 a2).drop (i * n2)) ∧ Aside0 (Pt w0 (t : Int) gX g N c A6 n6 c6 l RS W))
 case atStart => exact ⟨0, _, rfl, ⟨rfl⟩, Nat.zero_le _, ⟨by rw [Nat.zero_mul]; rfl⟩, ⟨hT0⟩⟩
 case round =>
  clear hT0
  obtain ⟨i, l, rfl, hk, hi, hl0, hT⟩ := hrel
  replace hT := hT.out
  have q2 : wr.cell? ⟨gr, 2, none⟩ = some (.slice A2 n1 c2) := (blk_cell (blk_below hP0 hT.bel) 2).trans rfl
  by_cases hlt : i < n1
  ·have hi1 : ((i : Int) < (n1 : Int)) = True := eq_true (by omega)
   have h0i : (0 ≤ (i : Int)) = True := eq_true (by omega)
   have hiq := Aside0.mk hlt
   go_wp2_with fail
   clear q2
   go_loopg [10] n2 (fun kz v10 W => ∃ (j : Nat) (l : List Bool), v10 = .int .i64 (j : Int) ∧ Aside0 (kz = n2 - j) ∧ j ≤ n2 ∧ Aside0 (l = (List.range (i * n2 + j)).map FA ++ (accsD (fun x y => x != y) a1 a2).drop (i * n2 + j)) ∧ Aside0 (Pt w0 (t : Int) gX g N c A6 n6 c6 l RS W))
   case atStart => exact ⟨0, l, rfl, ⟨rfl⟩, Nat.zero_le _, hl0, ⟨hT⟩⟩
   case round =>
    clear hT hl0
    obtain ⟨j, l, rfl, hz, hj, hl0, hT⟩ := hrel
    replace hT := hT.out
    by_cases hlj : j < n2
    ·have hj1 : ((j : Int) < (n2 : Int)) = True := eq_true (by omega)
     have h0j : (0 ≤ (j : Int)) = True := eq_true (by omega)
     have hjq := Aside0.mk hlj
     have hKN := two_lt hiq.out hlj
     rw [hN.out] at hKN
     have hdv := two_div (x := i) hlj
     have hll : l.length = N := by rw [hl0.out]; simp [hbl.out]; omega
     obtain ⟨U, hU⟩ : ∃ U, i * n2 = U := ⟨_, rfl⟩
     have hw1 : wrap64 ((i : Int) * (n2 : Int)) = (U : Int) := by rw [← hU]; unfold wrap64; have e9 : ((i * n2 : Nat) : Int) = (i : Int) * (n2 : Int) := (by simp); rw [← e9, hU]; have := hsq.out; have := hN.out; omega
     have hw1q := Aside0.mk hw1
     clear hw1
     rw [hU] at hKN hdv hl0
     have hUq := Aside0.mk hU
     clear hU
     obtain ⟨K0, hK0e⟩ : ∃ K0, U + j = K0 := ⟨_, rfl⟩
     rw [hK0e] at hKN hdv hl0
     have hw2 : wrap64 ((U : Int) + (j : Int)) = (K0 : Int) := by unfold wrap64; have := hsq.out; have := hN.out; omega
     have hw2q := Aside0.mk hw2
     clear hw2
     have hK0eq := Aside0.mk hK0e
     have hKl : ((K0 : Int) < (N : Int)) = True := eq_true (by omega)
     have h0K : (0 ≤ (K0 : Int)) = True := eq_true (by omega)
     obtain ⟨f1, x9, k9⟩ := hT.at_ (i := K0) (by omega)
     have q2 : wr.cell? ⟨gr, 2, none⟩ = some (.slice A2 n1 c2) := (blk_cell (blk_below hP0 hT.bel) 2).trans rfl
     have q3 : wr.cell? ⟨gs, 2, none⟩ = some (.slice B2 n2 d2) := (blk_cell (blk_below hQ0 hT.bel) 2).trans rfl
     have qX : wr.cell? ⟨gX, 2, none⟩ = some (.slice (some ⟨g, 0, none⟩) N c) := (blk_cell hT.bX 2).trans rfl
     obtain ⟨x2, rfl, kx2⟩ := at_mark (Kd.C_below hA2q.out hT.bel) i (by rw [ha1.out]; exact hiq.out)
     obtain ⟨y2, rfl, ky2⟩ := at_mark (Kd.C_below hB2q.out hT.bel) j (by rw [ha2.out]; exact hjq.out)
     have hFv : FA K0 = (fun x y => x && y) (a1[i]'(by rw [ha1.out]; exact hiq.out)) (a2[j]'(by rw [ha2.out]; exact hjq.out)) := by rw [hFA.out]; simp only; rw [hdv.1, hdv.2]; simp [List.getD_eq_getElem?_getD, show i < a1.length by rw [ha1.out]; exact hiq.out, show j < a2.length by rw [ha2.out]; exact hjq.out]
     have hpt := Mk.part FA (accsD (fun x y => x != y) a1 a2) hbl.out hKN
     have hs := hT.put (by omega) K0 (FA K0)
     rw [hl0.out, hpt] at hs
     have hlN : Aside0 (l.length = N) := ⟨hll⟩
     generalize a1[i]'(by rw [ha1.out]; exact hiq.out) = p at *
     generalize a2[j]'(by rw [ha2.out]; exact hjq.out) = q at *
     rw [hFv] at hs
     have hsq2 := Aside0.mk hs
     clear hs hFv hpt hll hKN hdv hK0e
     have hw1 := hw1q.out
     have hw2 := hw2q.out
     cases p
     ·have hs : Pt w0 (t : Int) gX g N c A6 n6 c6 _ RS (wr.setCell ⟨g, K0, none⟩ (.bool (false))) := hsq2.out
      clear hsq2
      go_wp2_with fail
      clear hw1 hw2
      go_roundg (n2 - (j + 1))
      case measure => have := hz.out; have := hjq.out; omega
      case rel => exact ⟨j + 1, _, v_succ (by have := hb2q.out; have := hjq.out; omega), ⟨rfl⟩, (by have := hjq.out; omega), ⟨by rw [hUq.out, show U + (j + 1) = K0 + 1 by have := hK0eq.out; omega]⟩, ⟨hs⟩⟩
     ·have hs : Pt w0 (t : Int) gX g N c A6 n6 c6 _ RS (wr.setCell ⟨g, K0, none⟩ (.bool (q))) := hsq2.out
      clear hsq2
      go_wp2_with fail
      clear hw1 hw2
      go_roundg (n2 - (j + 1))
      case measure => have := hz.out; have := hjq.out; omega
      case rel => exact ⟨j + 1, _, v_succ (by have := hb2q.out; have := hjq.out; omega), ⟨rfl⟩, (by have := hjq.out; omega), ⟨by rw [hUq.out, show U + (j + 1) = K0 + 1 by have := hK0eq.out; omega]⟩, ⟨hs⟩⟩
    ·have hj1 : ((j : Int) < (n2 : Int)) = False := eq_false (by omega)
     have hjj : j = n2 := by omega
     go_wp2_with fail
     go_roundg (n1 - (i + 1))
     case measure => have := hk.out; have := hiq.out; omega
     case rel => exact ⟨i + 1, l, v_succ (by have := hb1q.out; have := hiq.out; omega), ⟨rfl⟩, (by have := hiq.out; omega), ⟨by rw [show (i + 1) * n2 = i * n2 + j by rw [Nat.add_mul, Nat.one_mul, hjj]]; exact hl0.out⟩, ⟨hT⟩⟩
  ·have hi1 : ((i : Int) < (n1 : Int)) = False := eq_false (by omega)
   have hii : i = n1 := by omega
   have hlf : l = accsD (fun x y => x && y) a1 a2 := by
    rw [hl0.out, hii, hN.out, List.drop_of_length_le (by rw [hbl.out]; exact Nat.le_refl _), List.append_nil]
    unfold accsD
    rw [ha1.out, ha2.out, hN.out, hFA.out]
   rw [hlf] at hT
   have q0 : wr.cell? ⟨gX, 0, none⟩ = some (.int .i64 (t : Int)) := (blk_cell hT.bX 0).trans rfl
   have q1 : wr.cell? ⟨gX, 1, none⟩ = some (.int .i64 0) := (blk_cell hT.bX 1).trans rfl
   have qA : wr.cell? ⟨gX, 2, none⟩ = some (.slice (some ⟨g, 0, none⟩) N c) := (blk_cell hT.bX 2).trans rfl
   have qN : wr.cell? ⟨gX, 3, none⟩ = some (.slice A6 n6 c6) := (blk_cell hT.bX 3).trans rfl
   have b0 := blk_below bZ hT.bel
   have e0 : wr.cell? ⟨w.heap.size, 0, none⟩ = some (.int .i64 0) := (blk_cell b0 0).trans rfl
   have f0 : wr.frozen? ⟨w.heap.size, 0, none⟩ = false := blk_frozen b0 0
   have e1 : wr.cell? ⟨w.heap.size, 1, none⟩ = some (.int .i64 0) := (blk_cell b0 1).trans rfl
   have f1 : wr.frozen? ⟨w.heap.size, 1, none⟩ = false := blk_frozen b0 1
   have e2 : wr.cell? ⟨w.heap.size, 2, none⟩ = some (.slice none 0 0) := (blk_cell b0 2).trans rfl
   have f2 : wr.frozen? ⟨w.heap.size, 2, none⟩ = false := blk_frozen b0 2
   have e3 : wr.cell? ⟨w.heap.size, 3, none⟩ = some (.slice none 0 0) := (blk_cell b0 3).trans rfl
   have f3 : wr.frozen? ⟨w.heap.size, 3, none⟩ = false := blk_frozen b0 3
   go_wp2_with fail
   have b1 := blk_put b0 0 (.int .i64 (t : Int)) rfl
   have b2 := blk_put b1 1 (.int .i64 0) rfl
   have b3 := blk_put b2 2 (.slice (some ⟨g, 0, none⟩) N c) rfl
   have b4 := blk_put b3 3 (.slice A6 n6 c6) rfl
   have hB9 := below_step hb0 hT.bel
   refine bodyPost_ret (results_cell_row rfl _ _ w.heap.size 27 #[.int .i64 (t : Int), .int .i64 0, .slice (some ⟨g, 0, none⟩) N c, .slice A6 n6 c6] (0, 0) _ rfl b4 Tryd.underlying27 rfl (by kernel_rfl)) rfl ⟨_, _, rfl, ?_, ?_, ?_⟩
   ·exact Kd.R_lower (Kd.R_set (Kd.R_set (Kd.R_set (Kd.R_set hT.acc b0 (by decide) 0 _) b1 (by decide) 1 _) b2 (by decide) 2 _) b3 (by decide) 3 _) (by omega)
   ·exact Kd.R_lower (Kd.R_set (Kd.R_set (Kd.R_set (Kd.R_set hT.nxt b0 (by decide) 0 _) b1 (by decide) 1 _) b2 (by decide) 2 _) b3 (by decide) 3 _) (by omega)
   ·exact (((hB9.setCell (by simp) _).setCell (by simp) _).setCell (by simp) _).setCell (by simp) _
end Go.Proofs.YtnjdkhnepmmfgaaDoor.Pts
namespace Go.Proofs.YtnjdkhnepmmfgaaDoor.Rw
set_option linter.unusedVariables false
set_option linter.unusedSimpArgs false
open Go.RowKit Go.Proofs.YtnjdkhnepmmfgaaDoorW.PrintWords Go.Proofs.YtnjdkhnepmmfgaaDoorW.PrintLast Go.Proofs.YtnjdkhnepmmfgaaDoorW.PrintMore Mp Kp PL1 Go.Proofs.YtnjdkhnepmmfgaaDoor.Pure
abbrev Row : Kd (List Int) := Kd.slice 2 (Kd.int .i64)
theorem info_row : (Tryd.prog.info? 75).map (fun i => (i.zero, i.size, i.bytes)) = some (some (.slice none 0 0), 1, 24) := by kernel_rfl
theorem set_row (l : List (List Int)) {i : Nat} (hi : i < l.length) : (l.take i ++ List.replicate (l.length - i) []).set i l[i] = l.take (i + 1) ++ List.replicate (l.length - (i + 1)) [] := by
 have e : l.length - i = (l.length - (i + 1)) + 1 := by omega
 have ht : (l.take i).length = i := by simp; omega
 rw [e, List.replicate_succ, List.set_append_right _ _ (by omega), ht, Nat.sub_self, List.set_cons_zero, List.take_succ_eq_append_getElem hi, List.append_assoc]
 rfl
/-- A new row is put into a row of rows. -/
theorem put_row {w0 w w1 : World} {g n cap i : Nat} {v5 : Value} {r : List Int} {ys : List (List Int)} (h : Kd.S Row 75 w w0.heap.size (fun _ => True) (.slice (some ⟨g, 0, none⟩) n cap) ys) (hn : i < n)
  (hR : (Kd.int .i64).R 2 w1 w.heap.size (fun _ => True) v5 r) (hb : Below w.heap.size w w1) (hw : w0.heap.size ≤ w.heap.size) :
  (∃ ve, w1.cell? ⟨g, i, none⟩ = some ve) ∧ w1.frozen? ⟨g, i, none⟩ = false ∧ Kd.S Row 75 (w1.setCell ⟨g, i, none⟩ v5) w0.heap.size (fun _ => True) (.slice (some ⟨g, 0, none⟩) n cap) (ys.set i r) := by
 have h1 := Kd.S_elder' h (Kd.R_base hR) hb
 have hT := Kd.S_typed h1
 have h2 : Kd.S Row 75 w1 w0.heap.size (fun k => (fun _ => True) k ∧ ¬ (fun k => some k = v5.ownBlock) k) (.slice (some ⟨g, 0, none⟩) n cap) ys := Kd.S_mono h1 (fun k hk => ⟨trivial, fun e => hk.2 e⟩)
 obtain ⟨oki, ce, hcl, hM, hcc, hfr, hoki, hH⟩ := Kd.S_elem h2 [] (i : Int) (by omega) (by omega)
 have hR2 := Kd.R_lower hR hw
 have hap := Kd.R_mono (ok' := fun k => (fun _ => True) k ∧ k ≠ g) (Kd.R_apart' hR2 hT (by decide)) (fun k hk => ⟨trivial, fun e => hk.2 (by rw [e]; rfl)⟩)
 obtain ⟨ve, rfl, ge⟩ := hM
 have hP := Kd.S_seg hH (by omega) (by omega) (seg := [v5]) (j := 0) (show 1 ≤ 1 from by decide) (x' := r) (Kd.M_row (Kd.R_mono (Kd.R_tight rfl hap) (fun _ h => Or.inr h))) (fun _ hk => hk) (fun k hk => hap.1 k hk.symm)
 have hc0 := hcc 0 _ rfl
 have hf0 := hfr 0
 have es : Row.sz = 1 := rfl
 simp only [es, Nat.mul_one, Nat.add_zero, Int.toNat_natCast] at hc0 hf0 hP
 exact ⟨⟨_, hc0⟩, hf0, hP.1⟩
set_option maxHeartbeats 2000000 in
set_option maxRecDepth 100000 in
theorem toRows (A0 : Option Addr) (c0 : Nat) (l0 : List (List Int)) (w : World) (hr0 : Kd.C Row w A0 l0.length l0) (hc0 : l0.length ≤ c0) (hl : l0.length ≤ 1048576)
  (hcall : ∀ W A c (r : List Int), r ∈ l0 → Kd.C (Kd.int .i64) W A r.length r → r.length ≤ c → Calls Tryd.prog 69 #[.slice A r.length c] W fun e W' => ∃ v, e = .returned v ∧ (Kd.int .i64).R 2 W' W.heap.size (fun _ => True) v r ∧ Below W.heap.size W W') :
  Calls Tryd.prog 28 #[.slice A0 l0.length c0] w fun e w' => ∃ v, e = .returned v ∧ Kd.S Row 75 w' w.heap.size (fun _ => True) v l0 ∧ Below w.heap.size w w' := by
 have hcal := Aside0.mk hcall
 clear hcall
 go_enter Tryd.func28, Tryd.ntmps28
 go_wp2_with ((with_reducible refine gate_dst (N := 7) rfl ?_); go_loud (
  refine Kd.S_make Row (w0 := w) w.heap.size 75 rfl (N := 7) rfl 23 _ _ rfl (l0.length : Int) rfl rfl Tryd.underlying23 (.slice none 0 0) 24 info_row rfl (by decide) (by decide) [] (ok := fun _ => True) (okp := fun _ => False) ⟨_, rfl, Kd.R_nil _ _ _ _ _⟩ (fun _ h => h.elim) trivial (by omega) (by simp; omega) (Below.refl _ _) (Nat.le_refl _) ?_
  intro v1 w1 hS1 hb1 hg1 hn1
  rw [Int.toNat_natCast] at hS1
  obtain ⟨A1, c1, hv1⟩ := Kd.S_slice hS1
  rw [List.length_replicate] at hv1
  subst hv1))
 clear hg1 hn1
 go_loopg [4] l0.length (fun kq v4 W => ∃ i : Nat, v4 = .int .i64 (i : Int) ∧ Aside0 (kq = l0.length - i) ∧ i ≤ l0.length ∧ Aside0 (Kd.S Row 75 W w.heap.size (fun _ => True) (.slice A1 l0.length c1) (l0.take i ++ List.replicate (l0.length - i) [])) ∧ Aside0 (Below w.heap.size w W))
 case atStart => exact ⟨0, rfl, ⟨rfl⟩, Nat.zero_le _, ⟨by simpa using hS1⟩, ⟨hb1⟩⟩
 case round =>
  clear hS1 hb1
  obtain ⟨i, rfl, hk, hil, hS, hb⟩ := hrel
  by_cases hi : i < l0.length
  ·obtain ⟨ad, rfl, A9, c9, e9, hl9, hC9⟩ := at_row hr0 i hi
   have e9' := (hb.out.cell (World.block_lt_of_cell? w _ e9)).trans e9
   have hi1 : ((i : Int) < (l0.length : Int)) = True := eq_true (by omega)
   have h0i : (0 ≤ (i : Int)) = True := eq_true (by omega)
   obtain ⟨g, cg, hvg, hgb, hgl, cells, hcg⟩ := Kd.S_form hS.out (by simp; omega)
   obtain ⟨rfl, rfl⟩ : A1 = some ⟨g, 0, none⟩ ∧ c1 = cg := by
    simp only [Value.slice.injEq] at hvg
    exact ⟨hvg.1, hvg.2.2⟩
   obtain ⟨r, hr⟩ : ∃ r, l0[i] = r := ⟨_, rfl⟩
   have hrm : r ∈ l0 := by rw [← hr]; exact List.getElem_mem hi
   have hst := Aside0.mk (set_row l0 hi)
   rw [hr] at hst e9' hl9 hC9
   clear hvg hcg cells e9 hr
   go_wp2_with (go_at_call 69; go_loud (
    with_reducible refine (hcal.out _ _ _ r hrm (Kd.C_below hC9 hb.out) hl9).mono ?_
    rintro e w5 ⟨v5, rfl, hR5, hb5⟩
    obtain ⟨⟨ve, hx5⟩, hf5, hP5⟩ := put_row (w0 := w) hS.out (i := i) hi hR5 hb5 (Below.size hb.out)
    have hB5 := (below_step hb.out hb5).setCell (p := ⟨g, i, none⟩) hgb v5
    obtain ⟨A5, c5, hv5⟩ := Kd.R_slice hR5
    subst hv5))
   go_roundg (l0.length - (i + 1))
   case measure => have := hk.out; omega
   case rel => exact ⟨i + 1, (by go_num), ⟨rfl⟩, by omega, ⟨by rw [← hst.out]; exact hP5⟩, ⟨hB5⟩⟩
  ·have hi1 : ((i : Int) < (l0.length : Int)) = False := eq_false (by omega)
   obtain rfl : i = l0.length := by omega
   have hS2 := hS.out
   rw [List.take_of_length_le (Nat.le_refl _), Nat.sub_self, List.replicate_zero, List.append_nil] at hS2
   go_wp2_with fail
   go_ret
   exact ⟨_, rfl, hS2, hb.out⟩
/-! ### told -/
theorem toLongs_ev (xs : List Int) (h : xs.length ≤ 1048576) : Ev (fun k => laws_toInt64S.f k xs) xs := by
 have key := ev_copy (fun k ys i => laws_toInt64S.l0 k xs ys i) xs 0
  (fun ys hy => ev_const (fun k => by simp [laws_toInt64S.l0]))
  (fun i hi ys r hy H => ev_step (fun k => by
   simp only [laws_toInt64S.l0]
   rw [if_pos (by omega), if_pos (by omega), if_pos (by omega), rd_nat xs i hi, wrap_up (by omega), Int.toNat_natCast]) H)
 exact Ev.congr (fun k => by unfold laws_toInt64S.f; rw [if_pos (by omega), if_pos (by simp; omega)]; simp) key
def laws_toInt64SS.f (l0 : List (List Int)) : Option (List (List Int)) := if l0.length ≤ 1048576 ∧ ∀ r ∈ l0, r.length ≤ 1048576 then some l0 else none
theorem laws_toInt64SS.calls (A0 : Option Addr) (c0 : Nat) (l0 : List (List Int)) (r : List (List Int)) (w : World) (hr0 : Kd.C (Kd.slice 2 (Kd.int .i64)) w A0 l0.length l0) (hc0 : l0.length ≤ c0) (h : laws_toInt64SS.f l0 = some r) :
  Calls Tryd.prog 28 #[.slice A0 l0.length c0] w fun e w' => ∃ v0_ : Value, e = .returned (v0_) ∧ Kd.S (Kd.slice 2 (Kd.int .i64)) 75 w' w.heap.size (fun _ => True) v0_ r ∧ Below w.heap.size w w' := by
 unfold laws_toInt64SS.f at h
 split at h
 ·rename_i hh
  obtain rfl := Option.some.inj h
  refine toRows A0 c0 l0 w hr0 hc0 hh.1 (fun W A c r hr hC hc => ?_)
  obtain ⟨k, hk⟩ := (toLongs_ev r (hh.2 r hr)).rounds
  exact laws_toInt64S.calls k A c r r W hC hc hk
 ·cases h
end Go.Proofs.YtnjdkhnepmmfgaaDoor.Rw
namespace Go.Proofs.YtnjdkhnepmmfgaaDoor.PT3
open Go.RowKit Go.Proofs.YtnjdkhnepmmfgaaDoorW.PrintWords Go.Proofs.YtnjdkhnepmmfgaaDoorW.PrintLast Go.Proofs.YtnjdkhnepmmfgaaDoorW.PrintMore PL1 Rw
attribute [local go_sem] max2_int min2_int max_two min_two max_three min_three max_four min_four   -- for this text's walks alone
set_option linter.unusedVariables false
set_option linter.unusedSimpArgs false
def errW : Option Int → Value
 | none => .nilIface
 | some c => .iface 0 (.int .i64 c)
theorem errW_none : errW none = .nilIface := rfl
theorem errW_some (c : Int) : errW (some c) = .iface 0 (.int .i64 c) := rfl
theorem info4 : (Tryd.prog.info? 4).map (fun i => (i.zero, i.size, i.bytes)) = some (some (.bool false), 1, 1) := by kernel_rfl
def rd_L2 (xs : List (List Int)) (i : Int) : (List Int) := xs.getD i.toNat ([] : List Int)
theorem at_L2 {w : World} {A : Option Addr} {n : Nat} {xs : List (List Int)} (h : Kd.C (Kd.slice 2 (Kd.int .i64)) w A n xs) (i : Int) (h0 : 0 ≤ i) (h1 : i < n) : ∃ ad A0 c0, A = some ad ∧ w.cell? (ad.add i.toNat) = some (.slice A0 (rd_L2 xs i).length c0) ∧ (rd_L2 xs i).length ≤ c0 ∧ (Kd.int .i64).C w A0 (rd_L2 xs i).length (rd_L2 xs i) := by
 obtain ⟨ad, c, e, _, hK, hc0⟩ := Kd.C_get h ([] : List Int) i h0 h1
 have hc : ∀ j u, c[j]? = some u → w.cell? (ad.add (i.toNat * 1 + j)) = some u := hc0
 obtain ⟨A0, c0, rfl, l0, g0⟩ := hK
 exact ⟨ad, A0, c0, e, by have hq := hc 0 _ rfl; rwa [Nat.mul_one, Nat.add_zero] at hq, l0, g0⟩
end Go.Proofs.YtnjdkhnepmmfgaaDoor.PT3
