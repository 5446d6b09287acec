/- Parts of the proof, put together by a program of the session. -/
import Derived.Test.YtbamnonamdpooaaDoorProg
import Derived.Below
import Derived.Deep.Draws
import Derived.Deep.AppendLies
import Derived.Maps.AppendAt
import Derived.OwnWalk
import Derived.Laws.BytesArg
import Derived.Laws.MakeOwn
import Derived.Laws.OwnMore
import Derived.Deep.OwnRows
import Derived.Tactics
import Derived.Lib.ConvBytes
import Derived.Laws.Slices
import Derived.WalkKit
import Derived.KernelRfl
import Derived.RowKit3
import Derived.Deep.LoopGhost
import Derived.Deep.QuietTactic
import Derived.BigQuiet
import Derived.WideLaws
import Derived.Deep.DeepCutAuto
import Derived.Deep.CutBlock
import Derived.Deep.RegionHeld3
import Derived.Laws.Rows
import Derived.Lib.AppendStr
import Derived.ArgAppend
import Derived.Laws.IdiomCopy
import Derived.OrdersHeld
import Derived.Laws.BitsLemmas
import Derived.RowKit
import Derived.ChangeKeysEq
import Derived.Test.YtbamnonamdpooaaDoorCore2
import Derived.Test.YtbamnonamdpooaaDoorCWords
import Derived.Test.YtbamnonamdpooaaDoorCLast
import Derived.Test.YtbamnonamdpooaaDoorCTab
import Derived.Test.YtbamnonamdpooaaDoorCFour
import Derived.Test.YtbamnonamdpooaaDoorCQPut
import Derived.Test.YtbamnonamdpooaaDoorCApart
import Derived.Test.YtbamnonamdpooaaDoorCArr
import Derived.Test.YtbamnonamdpooaaDoorCZeros
import Derived.Test.YtbamnonamdpooaaDoorCFoot
import Derived.Test.YtbamnonamdpooaaDoorCKept
import Derived.Test.YtbamnonamdpooaaDoorCShare
import Derived.Test.YtbamnonamdpooaaDoorCN
import Derived.Test.YtbamnonamdpooaaDoorCFootNe
import Derived.Test.YtbamnonamdpooaaDoorCAt
import Derived.Test.YtbamnonamdpooaaDoorCEqStruct
import Derived.Test.YtbamnonamdpooaaDoorCRepsOne
import Derived.Test.YtbamnonamdpooaaDoorCInv
import Derived.Test.YtbamnonamdpooaaDoorCInvWords
import Derived.Test.YtbamnonamdpooaaDoorCGuard
import Derived.Test.YtbamnonamdpooaaDoorCNEv
import Derived.Test.YtbamnonamdpooaaDoorCMore
import Derived.Shelf.LaysM
import Derived.Shelf.Strconv.Itoa3
import Derived.Shelf.SlicesE.Clone
import Derived.Test.YtbamnonamdpooaaDoorCore1
import Derived.Lib.AppendIntMem
import Derived.Lib.LaidTab
import Derived.Lib.ItoaNum
namespace Go.Proofs.YtbamnonamdpooaaDoor.PT3
open Go.RowKit Go.Proofs.YtbamnonamdpooaaDoorW.PrintWords Go.Proofs.YtbamnonamdpooaaDoorW.PrintLast Go.Proofs.YtbamnonamdpooaaDoorW.PrintMore Go.Proofs.YtbamnonamdpooaaDoor.PL1 Go.Proofs.YtbamnonamdpooaaDoor.Rw
attribute [local go_sem] max2_int min2_int max_two min_two max_three min_three max_four min_four   -- for this text's walks alone
set_option linter.unusedVariables false
set_option linter.unusedSimpArgs false
def errW : Option Int → Value
 | none => .nilIface
 | some c => .iface 0 (.int .i64 c)
theorem errW_none : errW none = .nilIface := rfl
theorem errW_some (c : Int) : errW (some c) = .iface 0 (.int .i64 c) := rfl
theorem info4 : (Tryd.prog.info? 4).map (fun i => (i.zero, i.size, i.bytes)) = some (some (.bool false), 1, 1) := by kernel_rfl
def rd_L2 (xs : List (List Int)) (i : Int) : (List Int) := xs.getD i.toNat ([] : List Int)
theorem at_L2 {w : World} {A : Option Addr} {n : Nat} {xs : List (List Int)} (h : Kd.C (Kd.slice 2 (Kd.int .i64)) w A n xs) (i : Int) (h0 : 0 ≤ i) (h1 : i < n) : ∃ ad A0 c0, A = some ad ∧ w.cell? (ad.add i.toNat) = some (.slice A0 (rd_L2 xs i).length c0) ∧ (rd_L2 xs i).length ≤ c0 ∧ (Kd.int .i64).C w A0 (rd_L2 xs i).length (rd_L2 xs i) := by
 obtain ⟨ad, c, e, _, hK, hc0⟩ := Kd.C_get h ([] : List Int) i h0 h1
 have hc : ∀ j u, c[j]? = some u → w.cell? (ad.add (i.toNat * 1 + j)) = some u := hc0
 obtain ⟨A0, c0, rfl, l0, g0⟩ := hK
 exact ⟨ad, A0, c0, e, by have hq := hc 0 _ rfl; rwa [Nat.mul_one, Nat.add_zero] at hq, l0, g0⟩
end Go.Proofs.YtbamnonamdpooaaDoor.PT3
namespace Go.Proofs.YtbamnonamdpooaaDoor.PT3
open Go.RowKit Go.Proofs.YtbamnonamdpooaaDoorW.PrintWords Go.Proofs.YtbamnonamdpooaaDoorW.PrintLast Go.Proofs.YtbamnonamdpooaaDoorW.PrintMore Go.Proofs.YtbamnonamdpooaaDoor.PL1 Go.Proofs.YtbamnonamdpooaaDoor.Rw
attribute [local go_sem] max2_int min2_int max_two min_two max_three min_three max_four min_four   -- for this text's walks alone
set_option linter.unusedVariables false
set_option linter.unusedSimpArgs false
/-! ### laws_toBoolS: function 50 -/
def laws_toBoolS.l0 : Nat → List Bool → List Bool → Int → Option (List Bool)
 | 0, _, _, _ => none
 | k + 1, x0, x3, x4 => if x4 < (x0.length : Int) then (if 0 ≤ x4 then (if x4 < (x3.length : Int) then (laws_toBoolS.l0 k x0 (x3.set (x4 : Int).toNat (rdOf false x0 x4)) (wrap64 (x4 + 1))) else (none)) else (none)) else (some x3)
def laws_toBoolS.f (k : Nat) (l0 : List Bool) : Option (List Bool) := if 0 ≤ (l0.length : Int) then (if ((l0.length : Int) : Int).toNat ≤ 281474976710656 then (laws_toBoolS.l0 k l0 (List.replicate ((l0.length : Int) : Int).toNat false) 0) else (none)) else (none)
theorem laws_toBoolS.mono_l : ∀ k, (∀ y0 y1 y2, LeO (laws_toBoolS.l0 k y0 y1 y2) (laws_toBoolS.l0 (k + 1) y0 y1 y2))
 | 0 => fun _ _ _ r h => by simp [laws_toBoolS.l0] at h
 | k + 1 => by
  have ih0 := laws_toBoolS.mono_l k
  ·intro y0 y1 y2
   unfold laws_toBoolS.l0
   repeat' first
   | (with_reducible exact ih0 _ _ _)
   | (with_reducible exact LeO.refl _)
   | (with_reducible exact LeO.none _)
   | (with_reducible refine LeO.ite ?_ ?_)
   | (with_reducible refine LeO.bind ?_ (fun _ => ?_))
   | exact ih0 _ _ _
   | exact LeO.none _
   | refine LeO.ite ?_ ?_
   | refine LeO.bind ?_ (fun _ => ?_)
theorem laws_toBoolS.mono : ∀ a0 k, LeO (laws_toBoolS.f k a0) (laws_toBoolS.f (k + 1) a0) := by
 intro a0 k
 have ih0 := laws_toBoolS.mono_l k
 unfold laws_toBoolS.f
 repeat' first
   | (with_reducible exact ih0 _ _ _)
   | (with_reducible exact LeO.refl _)
   | (with_reducible exact LeO.none _)
   | (with_reducible refine LeO.ite ?_ ?_)
   | (with_reducible refine LeO.bind ?_ (fun _ => ?_))
   | exact ih0 _ _ _
   | exact LeO.none _
   | refine LeO.ite ?_ ?_
   | refine LeO.bind ?_ (fun _ => ?_)
set_option maxHeartbeats 8000000 in
set_option maxRecDepth 100000 in
theorem laws_toBoolS.calls (k : Nat) (A0 : Option Addr) (c0 : Nat) (l0 : List Bool) (r : List Bool) (w : World) (hr0 : Kd.C Kd.bool w A0 l0.length l0) (hc0 : l0.length ≤ c0) (h : laws_toBoolS.f k l0 = some r) :
  Calls Tryd.prog 50 #[.slice A0 l0.length c0] w fun e w' => ∃ v0_ : Value, e = .returned (v0_) ∧ Kd.R Kd.bool 4 w' w.heap.size (fun _ => True) v0_ r ∧ Below w.heap.size w w' := by
 have HR0 := Aside0.mk hr0
 have HC0 := Aside0.mk hc0
 clear hr0 hc0
 have HB := Aside0.mk (Below.refl w.heap.size w)
 have H : (if 0 ≤ (l0.length : Int) then (if ((l0.length : Int) : Int).toNat ≤ 281474976710656 then (laws_toBoolS.l0 k l0 (List.replicate ((l0.length : Int) : Int).toNat false) 0) else (none)) else (none)) = some r := h
 clear h
 by_cases c2 : 0 ≤ (l0.length : Int)
 ·rw [if_pos c2] at H
  have c2b0 := eq_true c2
  have c2b1 : decide (0 ≤ (l0.length : Int)) = true := decide_eq_true c2
  clear c2
  by_cases c3 : ((l0.length : Int) : Int).toNat ≤ 281474976710656
  ·rw [if_pos c3] at H
   have c3b0 := eq_true c3
   have c3b1 : decide (((l0.length : Int) : Int).toNat ≤ 281474976710656) = true := decide_eq_true c3
   clear c3
   obtain ⟨y101, hy101⟩ : ∃ y_ : List Bool, y_ = (List.replicate ((l0.length : Int) : Int).toNat false) := ⟨_, rfl⟩
   replace H : (laws_toBoolS.l0 k l0 y101 0) = some r := by first | (rw [hy101]; with_reducible exact H) | (have H2_ := (Option.bind_some _ _).symm.trans H; rw [hy101]; with_reducible exact H2_) | (have H2_ := (Option.bind_some _ _).symm.trans H; with_reducible exact H2_) | with_reducible exact H | (rw [hy101]; exact H) | exact H
   have Ny101 := Aside0.mk hy101
   clear hy101
   have H' := Aside0.mk H
   clear H
   go_enter Tryd.func50, Tryd.ntmps50
   go_wp2_with (first | ((with_reducible refine gate_dst (N := 7) rfl ?_); refine Kd.R_make Kd.bool _ 4 rfl (N := 7) rfl 22 _ _ rfl (l0.length : Int) rfl rfl Tryd.underlying22 (.bool false) 1 info4 rfl (by decide) (by omega) false (ok := fun _ => True) (okp := fun _ => True) rfl (fun _ hk => hk) trivial (of_decide_eq_true (by first | (with_reducible assumption) | assumption)) (Nat.le_trans (Nat.mul_le_mul_right _ (of_decide_eq_true (by first | (with_reducible assumption) | assumption) : (l0.length : Int).toNat ≤ 281474976710656)) (by omega)) (Below.refl _ _) (Nat.le_refl _) ?_; intro v102 w4 ho5 hb hg_ hnew_; clear hg_ hnew_; (first | rw [← Ny101.out] at ho5 | (simp only [Int.reduceToNat] at ho5; rw [← Ny101.out] at ho5)); have n0_ := Aside0.mk (Kd.R_lower ho5 (below_size (by repeat (first | (with_reducible first | exact HB.out | apply below_alloc | apply pw_below_drewN | apply below_drew1) | exact HB.out)))); have n1_ := Aside0.mk (below_step (by repeat (first | (with_reducible first | exact HB.out | apply below_alloc | apply pw_below_drewN | apply below_drew1) | exact HB.out)) hb); clear HB; have HO103 := n0_; have HB := n1_; clear n0_ n1_; clear hb ho5))
   go_loopg [4] k (fun kq v4 w' => ∃ (x3_1 : List Bool) (x4_1 : Int), v4 = .int .i64 x4_1 ∧ Aside0 (laws_toBoolS.l0 kq l0 x3_1 x4_1 = some r) ∧ Aside0 (kq ≤ k) ∧ Aside0 (Kd.R Kd.bool 4 w' w.heap.size (fun _ => True) v102 x3_1) ∧ Aside0 (Below w.heap.size w w'))
   case atStart => exact ⟨(y101), (0), (by first | rfl | (simp; done) | (simp [*]; done) | (simp [wrap64]; done)), H', ⟨Nat.le_refl _⟩, ⟨by (with_reducible repeat (first | apply Kd.R_alloc | apply Kd.R_drewN | apply Kd.R_drew)); exact HO103.out⟩, ⟨by repeat (first | (with_reducible first | exact HB.out | apply below_alloc | apply pw_below_drewN | apply below_drew1) | exact HB.out)⟩⟩
   case round =>
    clear H'
    try clear c2
    try clear c2b0
    try clear c2b1
    try clear p2
    try clear c3
    try clear c3b0
    try clear c3b1
    try clear c5
    obtain ⟨x3_1, x4_1, rfl, HA, HK1, HO_3, HB⟩ := hrel
    cases gk with
    | zero => exact absurd HA.out (by simp [laws_toBoolS.l0])
    | succ k1 =>
     have H := HA.out
     clear HA
     simp only [laws_toBoolS.l0] at H
     by_cases c6 : x4_1 < (l0.length : Int)
     ·rw [if_pos c6] at H
      have c6b0 : decide (x4_1 < (l0.length : Int)) = true := decide_eq_true c6
      clear c6
      by_cases c7 : 0 ≤ x4_1
      ·rw [if_pos c7] at H
       have c7b0 : decide (0 ≤ x4_1) = true := decide_eq_true c7
       clear c7
       by_cases c8 : x4_1 < (x3_1.length : Int)
       ·rw [if_pos c8] at H
        have c8b0 : decide (x4_1 < (x3_1.length : Int)) = true := decide_eq_true c8
        clear c8
        obtain ⟨y105, hy105⟩ : ∃ y_ : List Bool, y_ = (x3_1.set (x4_1 : Int).toNat (rdOf false l0 x4_1)) := ⟨_, rfl⟩
        replace H : (laws_toBoolS.l0 k1 l0 y105 (wrap64 (x4_1 + 1))) = some r := by first | (rw [hy105]; with_reducible exact H) | (have H2_ := (Option.bind_some _ _).symm.trans H; rw [hy105]; with_reducible exact H2_) | (have H2_ := (Option.bind_some _ _).symm.trans H; with_reducible exact H2_) | with_reducible exact H | (rw [hy105]; exact H) | exact H
        have Ny105 := Aside0.mk hy105
        clear hy105
        have H' := Aside0.mk H
        clear H
        have p104 : 0 ≤ (x4_1 : Int) := of_decide_eq_true (by first | (with_reducible assumption) | assumption)
        have q104 : x4_1 < (l0.length : Int) := of_decide_eq_true (by first | (with_reducible assumption) | assumption)
        obtain ⟨ad104, e104, hx104_0⟩ := Kd.at_bool HR0.out x4_1 p104 q104
        cases e104
        replace hx104_0 := (HB.out.cell (World.block_lt_of_cell? w _ hx104_0)).trans hx104_0
        replace p104 := eq_true p104
        replace q104 := eq_true q104
        have p9 : 0 ≤ (x4_1 : Int) := of_decide_eq_true (by first | (with_reducible assumption) | assumption)
        have q9 : (x4_1 : Int) < ((x3_1.length : Int) : Int) := of_decide_eq_true (by first | (with_reducible assumption) | assumption)
        obtain ⟨go9, co9, eo9, gb9, gl9, cl9, HG9⟩ := Kd.R_form HO_3.out (by omega)
        (first | cases eo9 | (injection eo9 with ea_ en_ ec_; (first | subst ea_ | (injection ea_ with ea_; subst ea_)); subst ec_; clear en_))
        have GB9 := Aside0.mk gb9
        have GG9 := Aside0.mk HG9
        clear gb9 gl9 HG9
        obtain ⟨hx9_0, hf9_0⟩ := Kd.R_celln false HO_3.out (x4_1 : Int) p9 q9
        replace p9 := eq_true p9
        replace q9 := eq_true q9
        have HP10 := Kd.R_putg HO_3.out (x4_1 : Int) (rdOf false l0 x4_1)
        go_wp2_with (first | ((with_reducible refine gate_store (t := 4) (p := 20) rfl ?_); refine store_event (t := 4) (p := 20) (v := ?vo_w11) (w1 := (wr.setCell ⟨go9, (x4_1 : Int).toNat, none⟩ (.bool (rdOf false l0 x4_1)))) ?hg ?ho ?hn ?hr ?_; (case ho => rfl); (case hg => rfl); (case hn => rfl); (case hr => first | (go_simp; done) | (go_simp; rfl)); intro w11 hw; have hg : wr.grownBy w11 (some go9) := (by rw [hw]; exact HP10.2); have hp_ : Kd.R Kd.bool 4 w11 w.heap.size (fun _ => True) (.slice (some ⟨go9, 0, none⟩) x3_1.length co9) y105 := (by rw [hw, Ny105.out]; exact HP10.1); clear HP10; have n0_ := Aside0.mk (hp_); have n1_ := Aside0.mk ((by rw [hw]; exact below_set (HB.out) GB9.out : Below w.heap.size w w11)); clear HO_3; clear HB; have HO_3 := n0_; have HB := n1_; clear n0_ n1_; clear hg hw hp_))
        go_roundg k1
        case measure => have := HK1.out; omega
        case rel => exact ⟨(y105), (wrap64 (x4_1 + 1)), (by first | rfl | (simp; done) | (simp [*]; done) | (simp [wrap64]; done)), H', ⟨by have := HK1.out; omega⟩, ⟨by (with_reducible repeat (first | apply Kd.R_alloc | apply Kd.R_drewN | apply Kd.R_drew)); exact HO_3.out⟩, ⟨by repeat (first | (with_reducible first | exact HB.out | apply below_alloc | apply pw_below_drewN | apply below_drew1) | exact HB.out)⟩⟩
       ·rw [if_neg c8] at H
        exact absurd H (by simp)
      ·rw [if_neg c7] at H
       exact absurd H (by simp)
     ·rw [if_neg c6] at H
      have c6b0 : decide (x4_1 < (l0.length : Int)) = false := decide_eq_false c6
      clear c6
      obtain rfl := Option.some.inj H
      simp only [Option.some.injEq, Prod.mk.injEq] at H
      obtain ⟨rfl⟩ := H
      go_wp2
      go_ret
      exact ⟨_, by first | rfl | (simp [errW_none, errW_some] <;> rfl) | (simp [*, errW_none, errW_some] <;> rfl), by (with_reducible repeat (first | apply Kd.R_alloc | apply Kd.R_drewN | apply Kd.R_drew)); exact HO_3.out, by repeat (first | (with_reducible first | exact HB.out | apply below_alloc | apply pw_below_drewN | apply below_drew1) | exact HB.out)⟩
  ·rw [if_neg c3] at H
   exact absurd H (by simp)
 ·rw [if_neg c2] at H
  exact absurd H (by simp)
/-! ### laws_toRelation: function 14 -/
def laws_toRelation.f (k : Nat) (a0_0 : Int) (a0_1 : Int) (l0_2 : List Bool) (l0_3 : List (List Int)) : Option (Int × Int × List Bool × (List (List Int))) := (laws_toBoolS.f k l0_2).bind fun t109 => ((laws_toInt64SS.f l0_3).bind fun t112 => (some (a0_0, a0_1, t109, t112)))
theorem laws_toRelation.mono : ∀ a0 a1 a2 a3 k, LeO (laws_toRelation.f k a0 a1 a2 a3) (laws_toRelation.f (k + 1) a0 a1 a2 a3) := by
 intro a0 a1 a2 a3 k
 unfold laws_toRelation.f
 repeat' first
   | (with_reducible exact laws_toBoolS.mono _ _)
   | (with_reducible exact LeO.refl _)
   | (with_reducible exact LeO.none _)
   | (with_reducible refine LeO.ite ?_ ?_)
   | (with_reducible refine LeO.bind ?_ (fun _ => ?_))
   | exact laws_toBoolS.mono _ _
   | exact LeO.none _
   | refine LeO.ite ?_ ?_
   | refine LeO.bind ?_ (fun _ => ?_)
set_option maxHeartbeats 8000000 in
set_option maxRecDepth 100000 in
theorem laws_toRelation.calls (k : Nat) (a0_0 : Int) (a0_1 : Int) (A0_2 : Option Addr) (c0_2 : Nat) (l0_2 : List Bool) (A0_3 : Option Addr) (c0_3 : Nat) (l0_3 : List (List Int)) (r1 : Int) (r2 : Int) (r3 : List Bool) (r4 : List (List Int)) (w : World) (hr0_2 : Kd.C Kd.bool w A0_2 l0_2.length l0_2) (hc0_2 : l0_2.length ≤ c0_2) (hr0_3 : Kd.C (Kd.slice 2 (Kd.int .i64)) w A0_3 l0_3.length l0_3) (hc0_3 : l0_3.length ≤ c0_3) (h : laws_toRelation.f k a0_0 a0_1 l0_2 l0_3 = some (r1, r2, r3, r4)) :
  Calls Tryd.prog 14 #[.agg #[.int .i64 a0_0, .int .i64 a0_1, .slice A0_2 l0_2.length c0_2, .slice A0_3 l0_3.length c0_3]] w fun e w' => ∃ v2_ v3_ : Value, e = .returned (.agg #[.int .i64 r1, .int .i64 r2, v2_, v3_]) ∧ Kd.R Kd.bool 4 w' w.heap.size (fun _ => True) v2_ r3 ∧ Kd.S (Kd.slice 2 (Kd.int .i64)) 86 w' w.heap.size (fun _ => True) v3_ r4 ∧ Below w.heap.size w w' := by
 have hu25 := Tryd.underlying25
 have hu29 := Tryd.underlying29
 have HR0_2 := Aside0.mk hr0_2
 have HC0_2 := Aside0.mk hc0_2
 clear hr0_2 hc0_2
 have HR0_3 := Aside0.mk hr0_3
 have HC0_3 := Aside0.mk hc0_3
 clear hr0_3 hc0_3
 have HB := Aside0.mk (Below.refl w.heap.size w)
 have H : ((laws_toBoolS.f k l0_2).bind fun t109 => ((laws_toInt64SS.f l0_3).bind fun t112 => (some (a0_0, a0_1, t109, t112)))) = some (r1, r2, r3, r4) := h
 clear h
 replace H := Option.bind_eq_some_iff.mp H
 obtain ⟨t109, A20, H⟩ := H
 replace H : ((laws_toInt64SS.f l0_3).bind fun t112 => (some (a0_0, a0_1, t109, t112))) = some (r1, r2, r3, r4) := H
 have A2 := Aside0.mk A20
 clear A20
 replace H := Option.bind_eq_some_iff.mp H
 obtain ⟨t112, A30, H⟩ := H
 replace H : (some (a0_0, a0_1, t109, t112)) = some (r1, r2, r3, r4) := H
 have A3 := Aside0.mk A30
 clear A30
 simp only [Option.some.injEq, Prod.mk.injEq] at H
 obtain ⟨rfl, rfl, rfl, rfl⟩ := H
 go_enter Tryd.func14, Tryd.ntmps14
 go_wp2_with (first | ((with_reducible refine gate_dst (N := 1) rfl ?_); refine box_event ?hg (N := 1) ?hd (cs := #[.int .i64 a0_0, .int .i64 a0_1, .slice A0_2 l0_2.length c0_2, .slice A0_3 l0_3.length c0_3]) (t := 25) ?hr ?_; (case hd => rfl); (case hg => rfl); (case hr => first | (go_simp; done) | (go_simp; rfl)); intro gb106 hg w4 hbox hb; have n0_ := Aside0.mk (below_step (by repeat (first | (with_reducible first | exact HB.out | apply below_alloc | apply pw_below_drewN | apply below_drew1) | exact HB.out)) hb); have n1_ := Aside0.mk (hbox); have n2_ := Aside0.mk ((by rw [hg]; exact (below_size (by repeat (first | (with_reducible first | exact HB.out | apply below_alloc | apply pw_below_drewN | apply below_drew1) | exact HB.out))) : w.heap.size ≤ gb106)); have n3_ := Aside0.mk ((by rw [hg]; exact (below_size (by repeat (first | (with_reducible first | exact HB.out | apply below_alloc | apply pw_below_drewN | apply below_drew1) | exact HB.out))) : w.heap.size ≤ gb106)); clear HB; have HB := n0_; have BK106 := n1_; have GW106 := n2_; have GE106 := n3_; clear n0_ n1_ n2_ n3_; clear hb hbox hg) | ((with_reducible refine gate_dst (N := 2) rfl ?_); refine box_event ?hg (N := 2) ?hd (cs := #[.int .i64 0, .int .i64 0, .slice none 0 0, .slice none 0 0]) (t := 29) ?hr ?_; (case hd => rfl); (case hg => rfl); (case hr => first | (go_simp; done) | (go_simp; rfl)); intro gb107 hg w5 hbox hb; have n0_ := Aside0.mk (blk_below (g := gb106) (o := .cells #[.int .i64 a0_0, .int .i64 a0_1, .slice A0_2 l0_2.length c0_2, .slice A0_3 l0_3.length c0_3] 25 (0, 0)) (by (with_reducible repeat (first | refine blk_drewN ?_ _ | refine blk_drew ?_ | refine blk_alloc ?_ _)); exact BK106.out) hb); have n1_ := Aside0.mk (below_step (by repeat (first | (with_reducible first | exact HB.out | apply below_alloc | apply pw_below_drewN | apply below_drew1 | refine below_set ?_ GE106.out) | exact HB.out)) hb); have n2_ := Aside0.mk (hbox); have n3_ := Aside0.mk ((by rw [hg]; exact (below_size (by repeat (first | (with_reducible first | exact HB.out | apply below_alloc | apply pw_below_drewN | apply below_drew1 | refine below_set ?_ GE106.out) | exact HB.out))) : w.heap.size ≤ gb107)); have n4_ := Aside0.mk ((by rw [hg]; exact (below_size (by repeat (first | (with_reducible first | exact HB.out | apply below_alloc | apply pw_below_drewN | apply below_drew1 | refine below_set ?_ GE106.out) | exact HB.out))) : w.heap.size ≤ gb107)); have n5_ := Aside0.mk ((by rw [hg]; exact Nat.ne_of_lt (blk_lt (g := gb106) (o := .cells #[.int .i64 a0_0, .int .i64 a0_1, .slice A0_2 l0_2.length c0_2, .slice A0_3 l0_3.length c0_3] 25 (0, 0)) (by (with_reducible repeat (first | refine blk_drewN ?_ _ | refine blk_drew ?_ | refine blk_alloc ?_ _)); exact BK106.out)) : gb106 ≠ gb107)); have n6_ := Aside0.mk ((by rw [hg]; exact Nat.ne_of_gt (blk_lt (g := gb106) (o := .cells #[.int .i64 a0_0, .int .i64 a0_1, .slice A0_2 l0_2.length c0_2, .slice A0_3 l0_3.length c0_3] 25 (0, 0)) (by (with_reducible repeat (first | refine blk_drewN ?_ _ | refine blk_drew ?_ | refine blk_alloc ?_ _)); exact BK106.out)) : gb107 ≠ gb106)); clear BK106; clear HB; have BK106 := n0_; have HB := n1_; have BK107 := n2_; have GW107 := n3_; have GE107 := n4_; have NB106_107 := n5_; have NB107_106 := n6_; clear n0_ n1_ n2_ n3_ n4_ n5_ n6_; clear hb hbox hg) | ((with_reducible refine gate_dst (N := 3) rfl ?_); refine box_event ?hg (N := 3) ?hd (cs := #[.int .i64 0, .int .i64 0, .slice none 0 0, .slice none 0 0]) (t := 29) ?hr ?_; (case hd => rfl); (case hg => rfl); (case hr => first | (go_simp; done) | (go_simp; rfl)); intro gb108 hg w6 hbox hb; have n0_ := Aside0.mk (blk_below (g := gb106) (o := .cells #[.int .i64 a0_0, .int .i64 a0_1, .slice A0_2 l0_2.length c0_2, .slice A0_3 l0_3.length c0_3] 25 (0, 0)) (by (with_reducible repeat (first | refine blk_drewN ?_ _ | refine blk_drew ?_ | refine blk_alloc ?_ _)); exact BK106.out) hb); have n1_ := Aside0.mk (blk_below (g := gb107) (o := .cells #[.int .i64 0, .int .i64 0, .slice none 0 0, .slice none 0 0] 29 (0, 0)) (by (with_reducible repeat (first | refine blk_drewN ?_ _ | refine blk_drew ?_ | refine blk_alloc ?_ _)); exact BK107.out) hb); have n2_ := Aside0.mk (below_step (by repeat (first | (with_reducible first | exact HB.out | apply below_alloc | apply pw_below_drewN | apply below_drew1 | refine below_set ?_ GE106.out | refine below_set ?_ GE107.out) | exact HB.out)) hb); have n3_ := Aside0.mk (hbox); have n4_ := Aside0.mk ((by rw [hg]; exact (below_size (by repeat (first | (with_reducible first | exact HB.out | apply below_alloc | apply pw_below_drewN | apply below_drew1 | refine below_set ?_ GE106.out | refine below_set ?_ GE107.out) | exact HB.out))) : w.heap.size ≤ gb108)); have n5_ := Aside0.mk ((by rw [hg]; exact (below_size (by repeat (first | (with_reducible first | exact HB.out | apply below_alloc | apply pw_below_drewN | apply below_drew1 | refine below_set ?_ GE106.out | refine below_set ?_ GE107.out) | exact HB.out))) : w.heap.size ≤ gb108)); have n6_ := Aside0.mk ((by rw [hg]; exact Nat.ne_of_lt (blk_lt (g := gb106) (o := .cells #[.int .i64 a0_0, .int .i64 a0_1, .slice A0_2 l0_2.length c0_2, .slice A0_3 l0_3.length c0_3] 25 (0, 0)) (by (with_reducible repeat (first | refine blk_drewN ?_ _ | refine blk_drew ?_ | refine blk_alloc ?_ _)); exact BK106.out)) : gb106 ≠ gb108)); have n7_ := Aside0.mk ((by rw [hg]; exact Nat.ne_of_gt (blk_lt (g := gb106) (o := .cells #[.int .i64 a0_0, .int .i64 a0_1, .slice A0_2 l0_2.length c0_2, .slice A0_3 l0_3.length c0_3] 25 (0, 0)) (by (with_reducible repeat (first | refine blk_drewN ?_ _ | refine blk_drew ?_ | refine blk_alloc ?_ _)); exact BK106.out)) : gb108 ≠ gb106)); have n8_ := Aside0.mk ((by rw [hg]; exact Nat.ne_of_lt (blk_lt (g := gb107) (o := .cells #[.int .i64 0, .int .i64 0, .slice none 0 0, .slice none 0 0] 29 (0, 0)) (by (with_reducible repeat (first | refine blk_drewN ?_ _ | refine blk_drew ?_ | refine blk_alloc ?_ _)); exact BK107.out)) : gb107 ≠ gb108)); have n9_ := Aside0.mk ((by rw [hg]; exact Nat.ne_of_gt (blk_lt (g := gb107) (o := .cells #[.int .i64 0, .int .i64 0, .slice none 0 0, .slice none 0 0] 29 (0, 0)) (by (with_reducible repeat (first | refine blk_drewN ?_ _ | refine blk_drew ?_ | refine blk_alloc ?_ _)); exact BK107.out)) : gb108 ≠ gb107)); clear BK106; clear BK107; clear HB; have BK106 := n0_; have BK107 := n1_; have HB := n2_; have BK108 := n3_; have GW108 := n4_; have GE108 := n5_; have NB106_108 := n6_; have NB108_106 := n7_; have NB107_108 := n8_; have NB108_107 := n9_; clear n0_ n1_ n2_ n3_ n4_ n5_ n6_ n7_ n8_ n9_; clear hb hbox hg; have hnb7 := NB106_107.out; have hnc7 := NB107_106.out; have hnb8 := NB106_108.out; have hnc8 := NB108_106.out; have hcz9_0 : w6.cell? ⟨gb106, 0, none⟩ = some (.int .i64 a0_0) := (blk_cell BK106.out 0).trans rfl; have hcz9_1 : w6.cell? ⟨gb106, 1, none⟩ = some (.int .i64 a0_1) := (blk_cell BK106.out 1).trans rfl; have hcz9_2 : w6.cell? ⟨gb106, 2, none⟩ = some (.slice A0_2 l0_2.length c0_2) := (blk_cell BK106.out 2).trans rfl; have hcz9_3 : w6.cell? ⟨gb106, 3, none⟩ = some (.slice A0_3 l0_3.length c0_3) := (blk_cell BK106.out 3).trans rfl; have hfz9_0 := blk_frozen BK106.out 0; have hfz9_1 := blk_frozen BK106.out 1; have hfz9_2 := blk_frozen BK106.out 2; have hfz9_3 := blk_frozen BK106.out 3; have hnb10 := NB108_107.out; have hnc10 := NB107_108.out; have hcz11_0 : w6.cell? ⟨gb108, 0, none⟩ = some (.int .i64 0) := (blk_cell BK108.out 0).trans rfl; have hcz11_1 : w6.cell? ⟨gb108, 1, none⟩ = some (.int .i64 0) := (blk_cell BK108.out 1).trans rfl; have hcz11_2 : w6.cell? ⟨gb108, 2, none⟩ = some (.slice none 0 0) := (blk_cell BK108.out 2).trans rfl; have hcz11_3 : w6.cell? ⟨gb108, 3, none⟩ = some (.slice none 0 0) := (blk_cell BK108.out 3).trans rfl; have hfz11_0 := blk_frozen BK108.out 0; have hfz11_1 := blk_frozen BK108.out 1; have hfz11_2 := blk_frozen BK108.out 2; have hfz11_3 := blk_frozen BK108.out 3) | ((with_reducible refine gate_callee (f := 50) rfl ?_); refine goesL_ (some 12) rfl rfl Tryd.func50 (by kernel_rfl) rfl #[.slice A0_2 l0_2.length c0_2] rfl (by (try simp only [List.map_toArray, List.map_cons, List.map_nil]); first | done | rfl | (simp only [List.length_drop, List.length_take]; rfl)) ?_; (with_reducible refine (laws_toBoolS.calls k _ _ l0_2 t109 _ ?side1 ?side2 A2.out).mono ?_); (case side1 => exact Kd.C_below HR0_2.out (by repeat (first | (with_reducible first | exact HB.out | apply below_alloc | apply pw_below_drewN | apply below_drew1 | refine below_set ?_ GE106.out | refine below_set ?_ GE107.out | refine below_set ?_ GE108.out) | exact HB.out))); (case side2 => exact HC0_2.out); rintro e w12 ⟨v110, rfl, ho0, hb⟩; refine ⟨_, rfl, ?_⟩; have n0_ := Aside0.mk (Kd.R_lower ho0 (below_size (by repeat (first | (with_reducible first | exact HB.out | apply below_alloc | apply pw_below_drewN | apply below_drew1 | refine below_set ?_ GE106.out | refine below_set ?_ GE107.out | refine below_set ?_ GE108.out) | exact HB.out)))); have n1_ := Aside0.mk (blk_below (g := gb106) (o := .cells #[.int .i64 a0_0, .int .i64 a0_1, .slice A0_2 l0_2.length c0_2, .slice A0_3 l0_3.length c0_3] 25 (0, 0)) (by (with_reducible repeat (first | refine blk_drewN ?_ _ | refine blk_drew ?_ | refine blk_alloc ?_ _)); refine blk_far ?_ NB106_108.out _; (with_reducible repeat (first | refine blk_drewN ?_ _ | refine blk_drew ?_ | refine blk_alloc ?_ _)); refine blk_far ?_ NB106_108.out _; (with_reducible repeat (first | refine blk_drewN ?_ _ | refine blk_drew ?_ | refine blk_alloc ?_ _)); exact BK106.out) hb); have n2_ := Aside0.mk (blk_below (g := gb107) (o := .cells #[.int .i64 0, .int .i64 0, .slice none 0 0, .slice none 0 0] 29 (0, 0)) (by (with_reducible repeat (first | refine blk_drewN ?_ _ | refine blk_drew ?_ | refine blk_alloc ?_ _)); refine blk_far ?_ NB107_108.out _; (with_reducible repeat (first | refine blk_drewN ?_ _ | refine blk_drew ?_ | refine blk_alloc ?_ _)); refine blk_far ?_ NB107_108.out _; (with_reducible repeat (first | refine blk_drewN ?_ _ | refine blk_drew ?_ | refine blk_alloc ?_ _)); exact BK107.out) hb); have n3_ := Aside0.mk (blk_below (g := gb108) (o := .cells #[.int .i64 a0_0, .int .i64 a0_1, .slice none 0 0, .slice none 0 0] 29 (0, 0)) (by (with_reducible repeat (first | refine blk_drewN ?_ _ | refine blk_drew ?_ | refine blk_alloc ?_ _)); refine blk_put (cs := #[.int .i64 a0_0, .int .i64 0, .slice none 0 0, .slice none 0 0]) ?_ 1 _ rfl; (with_reducible repeat (first | refine blk_drewN ?_ _ | refine blk_drew ?_ | refine blk_alloc ?_ _)); refine blk_put (cs := #[.int .i64 0, .int .i64 0, .slice none 0 0, .slice none 0 0]) ?_ 0 _ rfl; (with_reducible repeat (first | refine blk_drewN ?_ _ | refine blk_drew ?_ | refine blk_alloc ?_ _)); exact BK108.out) hb); have n4_ := Aside0.mk (below_step (by repeat (first | (with_reducible first | exact HB.out | apply below_alloc | apply pw_below_drewN | apply below_drew1 | refine below_set ?_ GE106.out | refine below_set ?_ GE107.out | refine below_set ?_ GE108.out) | exact HB.out)) hb); clear BK106; clear BK107; clear BK108; clear HB; have HO111 := n0_; have BK106 := n1_; have BK107 := n2_; have BK108 := n3_; have HB := n4_; clear n0_ n1_ n2_ n3_ n4_; (try clear hb); (try clear hb2); (try clear hk); (try clear hi); (try clear ho0); obtain ⟨Ao13, co13, eo13⟩ := Kd.R_slice HO111.out; subst eo13; have hcz14_0 : w12.cell? ⟨gb108, 0, none⟩ = some (.int .i64 a0_0) := (blk_cell BK108.out 0).trans rfl; have hcz14_1 : w12.cell? ⟨gb108, 1, none⟩ = some (.int .i64 a0_1) := (blk_cell BK108.out 1).trans rfl; have hcz14_2 : w12.cell? ⟨gb108, 2, none⟩ = some (.slice none 0 0) := (blk_cell BK108.out 2).trans rfl; have hcz14_3 : w12.cell? ⟨gb108, 3, none⟩ = some (.slice none 0 0) := (blk_cell BK108.out 3).trans rfl; have hfz14_0 := blk_frozen BK108.out 0; have hfz14_1 := blk_frozen BK108.out 1; have hfz14_2 := blk_frozen BK108.out 2; have hfz14_3 := blk_frozen BK108.out 3; have hcz15_0 : w12.cell? ⟨gb106, 0, none⟩ = some (.int .i64 a0_0) := (blk_cell BK106.out 0).trans rfl; have hcz15_1 : w12.cell? ⟨gb106, 1, none⟩ = some (.int .i64 a0_1) := (blk_cell BK106.out 1).trans rfl; have hcz15_2 : w12.cell? ⟨gb106, 2, none⟩ = some (.slice A0_2 l0_2.length c0_2) := (blk_cell BK106.out 2).trans rfl; have hcz15_3 : w12.cell? ⟨gb106, 3, none⟩ = some (.slice A0_3 l0_3.length c0_3) := (blk_cell BK106.out 3).trans rfl; have hfz15_0 := blk_frozen BK106.out 0; have hfz15_1 := blk_frozen BK106.out 1; have hfz15_2 := blk_frozen BK106.out 2; have hfz15_3 := blk_frozen BK106.out 3) | ((with_reducible refine gate_callee (f := 51) rfl ?_); refine goesL_ (some 16) rfl rfl Tryd.func51 (by kernel_rfl) rfl #[.slice A0_3 l0_3.length c0_3] rfl (by (try simp only [List.map_toArray, List.map_cons, List.map_nil]); first | done | rfl | (simp only [List.length_drop, List.length_take]; rfl)) ?_; (with_reducible refine (laws_toInt64SS.calls _ _ l0_3 t112 _ ?side1 ?side2 A3.out).mono ?_); (case side1 => exact Kd.C_below HR0_3.out (by repeat (first | (with_reducible first | exact HB.out | apply below_alloc | apply pw_below_drewN | apply below_drew1 | refine below_set ?_ GE106.out | refine below_set ?_ GE107.out | refine below_set ?_ GE108.out) | exact HB.out))); (case side2 => exact HC0_3.out); rintro e w16 ⟨v113, rfl, ho0, hb⟩; refine ⟨_, rfl, ?_⟩; have n0_ := Aside0.mk (Kd.R_below (by (with_reducible repeat (first | apply Kd.R_alloc | apply Kd.R_drewN | apply Kd.R_drew)); exact (Kd.R_mono (Kd.R_far (p := ⟨gb108, 2, none⟩) (Kd.R_types HO111.out BK108.out (by decide)) (fun _ hk => hk.2) (.slice Ao13 t109.length co13)) (fun _ h_ => h_.1))) hb); have n1_ := Aside0.mk (Kd.S_lower ho0 (below_size (by repeat (first | (with_reducible first | exact HB.out | apply below_alloc | apply pw_below_drewN | apply below_drew1 | refine below_set ?_ GE106.out | refine below_set ?_ GE107.out | refine below_set ?_ GE108.out) | exact HB.out)))); have n2_ := Aside0.mk (blk_below (g := gb106) (o := .cells #[.int .i64 a0_0, .int .i64 a0_1, .slice A0_2 l0_2.length c0_2, .slice A0_3 l0_3.length c0_3] 25 (0, 0)) (by (with_reducible repeat (first | refine blk_drewN ?_ _ | refine blk_drew ?_ | refine blk_alloc ?_ _)); refine blk_far ?_ NB106_108.out _; (with_reducible repeat (first | refine blk_drewN ?_ _ | refine blk_drew ?_ | refine blk_alloc ?_ _)); exact BK106.out) hb); have n3_ := Aside0.mk (blk_below (g := gb107) (o := .cells #[.int .i64 0, .int .i64 0, .slice none 0 0, .slice none 0 0] 29 (0, 0)) (by (with_reducible repeat (first | refine blk_drewN ?_ _ | refine blk_drew ?_ | refine blk_alloc ?_ _)); refine blk_far ?_ NB107_108.out _; (with_reducible repeat (first | refine blk_drewN ?_ _ | refine blk_drew ?_ | refine blk_alloc ?_ _)); exact BK107.out) hb); have n4_ := Aside0.mk (blk_below (g := gb108) (o := .cells #[.int .i64 a0_0, .int .i64 a0_1, .slice Ao13 t109.length co13, .slice none 0 0] 29 (0, 0)) (by (with_reducible repeat (first | refine blk_drewN ?_ _ | refine blk_drew ?_ | refine blk_alloc ?_ _)); refine blk_put (cs := #[.int .i64 a0_0, .int .i64 a0_1, .slice none 0 0, .slice none 0 0]) ?_ 2 _ rfl; (with_reducible repeat (first | refine blk_drewN ?_ _ | refine blk_drew ?_ | refine blk_alloc ?_ _)); exact BK108.out) hb); have n5_ := Aside0.mk (below_step (by repeat (first | (with_reducible first | exact HB.out | apply below_alloc | apply pw_below_drewN | apply below_drew1 | refine below_set ?_ GE106.out | refine below_set ?_ GE107.out | refine below_set ?_ GE108.out) | exact HB.out)) hb); clear HO111; clear BK106; clear BK107; clear BK108; clear HB; have HO111 := n0_; have HO114 := n1_; have BK106 := n2_; have BK107 := n3_; have BK108 := n4_; have HB := n5_; clear n0_ n1_ n2_ n3_ n4_ n5_; (try clear hb); (try clear hb2); (try clear hk); (try clear hi); (try clear ho0); obtain ⟨Ao17, co17, eo17⟩ := Kd.S_slice HO114.out; subst eo17; have hcz18_0 : w16.cell? ⟨gb108, 0, none⟩ = some (.int .i64 a0_0) := (blk_cell BK108.out 0).trans rfl; have hcz18_1 : w16.cell? ⟨gb108, 1, none⟩ = some (.int .i64 a0_1) := (blk_cell BK108.out 1).trans rfl; have hcz18_2 : w16.cell? ⟨gb108, 2, none⟩ = some (.slice Ao13 t109.length co13) := (blk_cell BK108.out 2).trans rfl; have hcz18_3 : w16.cell? ⟨gb108, 3, none⟩ = some (.slice none 0 0) := (blk_cell BK108.out 3).trans rfl; have hfz18_0 := blk_frozen BK108.out 0; have hfz18_1 := blk_frozen BK108.out 1; have hfz18_2 := blk_frozen BK108.out 2; have hfz18_3 := blk_frozen BK108.out 3; have hcz19_0 : w16.cell? ⟨gb107, 0, none⟩ = some (.int .i64 0) := (blk_cell BK107.out 0).trans rfl; have hcz19_1 : w16.cell? ⟨gb107, 1, none⟩ = some (.int .i64 0) := (blk_cell BK107.out 1).trans rfl; have hcz19_2 : w16.cell? ⟨gb107, 2, none⟩ = some (.slice none 0 0) := (blk_cell BK107.out 2).trans rfl; have hcz19_3 : w16.cell? ⟨gb107, 3, none⟩ = some (.slice none 0 0) := (blk_cell BK107.out 3).trans rfl; have hfz19_0 := blk_frozen BK107.out 0; have hfz19_1 := blk_frozen BK107.out 1; have hfz19_2 := blk_frozen BK107.out 2; have hfz19_3 := blk_frozen BK107.out 3))
 refine bodyPost_ret (results_cell_row rfl _ _ gb107 29 #[.int .i64 a0_0, .int .i64 a0_1, .slice Ao13 t109.length co13, .slice Ao17 t112.length co17] (0, 0) _ rfl (by (with_reducible repeat (first | refine blk_drewN ?_ _ | refine blk_drew ?_ | refine blk_alloc ?_ _)); refine blk_put (cs := #[.int .i64 a0_0, .int .i64 a0_1, .slice Ao13 t109.length co13, .slice none 0 0]) ?_ 3 _ rfl; (with_reducible repeat (first | refine blk_drewN ?_ _ | refine blk_drew ?_ | refine blk_alloc ?_ _)); refine blk_put (cs := #[.int .i64 a0_0, .int .i64 a0_1, .slice none 0 0, .slice none 0 0]) ?_ 2 _ rfl; (with_reducible repeat (first | refine blk_drewN ?_ _ | refine blk_drew ?_ | refine blk_alloc ?_ _)); refine blk_put (cs := #[.int .i64 a0_0, .int .i64 0, .slice none 0 0, .slice none 0 0]) ?_ 1 _ rfl; (with_reducible repeat (first | refine blk_drewN ?_ _ | refine blk_drew ?_ | refine blk_alloc ?_ _)); refine blk_put (cs := #[.int .i64 0, .int .i64 0, .slice none 0 0, .slice none 0 0]) ?_ 0 _ rfl; (with_reducible repeat (first | refine blk_drewN ?_ _ | refine blk_drew ?_ | refine blk_alloc ?_ _)); refine blk_far ?_ NB107_108.out _; (with_reducible repeat (first | refine blk_drewN ?_ _ | refine blk_drew ?_ | refine blk_alloc ?_ _)); exact BK107.out) Tryd.underlying29 rfl (by kernel_rfl)) rfl ?_
 exact ⟨_, _, by first | rfl | (simp [errW_none, errW_some] <;> rfl) | (simp [*, errW_none, errW_some] <;> rfl), by (with_reducible repeat (first | apply Kd.R_alloc | apply Kd.R_drewN | apply Kd.R_drew)); exact Kd.R_mono (Kd.R_far (p := ⟨gb107, 3, none⟩) (Kd.R_far (p := ⟨gb107, 2, none⟩) (Kd.R_far (p := ⟨gb107, 1, none⟩) (Kd.R_far (p := ⟨gb107, 0, none⟩) (Kd.R_far (p := ⟨gb108, 3, none⟩) (Kd.R_types (Kd.R_types HO111.out BK108.out (by decide)) BK107.out (by decide)) (fun _ hk => hk.1.2) (.slice Ao17 t112.length co17)) (fun _ hk => hk.2) (.int .i64 a0_0)) (fun _ hk => hk.2) (.int .i64 a0_1)) (fun _ hk => hk.2) (.slice Ao13 t109.length co13)) (fun _ hk => hk.2) (.slice Ao17 t112.length co17)) (fun _ hk => trivial), by (with_reducible repeat (first | apply Kd.S_alloc | apply Kd.S_drewN | apply Kd.S_drew)); exact Kd.S_mono (Kd.S_far (p := ⟨gb107, 3, none⟩) (Kd.S_far (p := ⟨gb107, 2, none⟩) (Kd.S_far (p := ⟨gb107, 1, none⟩) (Kd.S_far (p := ⟨gb107, 0, none⟩) (Kd.S_far (p := ⟨gb108, 3, none⟩) (Kd.S_types (Kd.S_types HO114.out BK108.out (by decide)) BK107.out (by decide)) (fun _ hk => hk.1.2) (.slice Ao17 t112.length co17)) (fun _ hk => hk.2) (.int .i64 a0_0)) (fun _ hk => hk.2) (.int .i64 a0_1)) (fun _ hk => hk.2) (.slice Ao13 t109.length co13)) (fun _ hk => hk.2) (.slice Ao17 t112.length co17)) (fun _ hk => trivial), by repeat (first | (with_reducible first | exact HB.out | apply below_alloc | apply pw_below_drewN | apply below_drew1 | refine below_set ?_ GE106.out | refine below_set ?_ GE107.out | refine below_set ?_ GE108.out) | exact HB.out)⟩
/-! ### laws_szBoolS: function 45 -/
def laws_szBoolS.f (l0 : List Bool) (a1 : Int) : Option (Int) := if (wrap64 (a1 - (l0.length : Int))) < 0 then (some (-1)) else (some (wrap64 (a1 - (l0.length : Int))))
set_option maxHeartbeats 8000000 in
set_option maxRecDepth 100000 in
theorem laws_szBoolS.calls (A0 : Option Addr) (c0 : Nat) (l0 : List Bool) (a1 : Int) (r : Int) (w : World) (hr0 : Kd.C Kd.bool w A0 l0.length l0) (hc0 : l0.length ≤ c0) (h : laws_szBoolS.f l0 a1 = some r) :
  Calls Tryd.prog 45 #[.slice A0 l0.length c0, .int .i64 a1] w fun e w' => e = .returned (.int .i64 r) ∧ Drawn0 w w' := by
 have HR0 := Aside0.mk hr0
 have HC0 := Aside0.mk hc0
 clear hr0 hc0
 have H : (if (wrap64 (a1 - (l0.length : Int))) < 0 then (some (-1)) else (some (wrap64 (a1 - (l0.length : Int))))) = some r := h
 clear h
 by_cases c3 : (wrap64 (a1 - (l0.length : Int))) < 0
 ·rw [if_pos c3] at H
  have c3b0 : decide ((wrap64 (a1 - (l0.length : Int))) < 0) = true := decide_eq_true c3
  clear c3
  obtain rfl := Option.some.inj H
  simp only [Option.some.injEq, Prod.mk.injEq] at H
  obtain ⟨rfl⟩ := H
  go_enter Tryd.func45, Tryd.ntmps45
  go_wp2
  go_ret
  exact ⟨by first | rfl | (simp; done) | (simp [*]; done) | (simp [wrap64]; done), by repeat (first | exact Drawn0.refl _ | apply Drawn0.step)⟩
 ·rw [if_neg c3] at H
  have c3b0 : decide ((wrap64 (a1 - (l0.length : Int))) < 0) = false := decide_eq_false c3
  clear c3
  obtain rfl := Option.some.inj H
  simp only [Option.some.injEq, Prod.mk.injEq] at H
  obtain ⟨rfl⟩ := H
  go_enter Tryd.func45, Tryd.ntmps45
  go_wp2
  go_ret
  exact ⟨by first | rfl | (simp; done) | (simp [*]; done) | (simp [wrap64]; done), by repeat (first | exact Drawn0.refl _ | apply Drawn0.step)⟩
/-! ### laws_szInt64S: function 107 -/
def laws_szInt64S.f (l0 : List Int) (a1 : Int) : Option (Int) := if (wrap64 (a1 - (l0.length : Int))) < 0 then (some (-1)) else (some (wrap64 (a1 - (l0.length : Int))))
set_option maxHeartbeats 8000000 in
set_option maxRecDepth 100000 in
theorem laws_szInt64S.calls (A0 : Option Addr) (c0 : Nat) (l0 : List Int) (a1 : Int) (r : Int) (w : World) (hr0 : Kd.C (Kd.int .i64) w A0 l0.length l0) (hc0 : l0.length ≤ c0) (h : laws_szInt64S.f l0 a1 = some r) :
  Calls Tryd.prog 107 #[.slice A0 l0.length c0, .int .i64 a1] w fun e w' => e = .returned (.int .i64 r) ∧ Drawn0 w w' := by
 have HR0 := Aside0.mk hr0
 have HC0 := Aside0.mk hc0
 clear hr0 hc0
 have H : (if (wrap64 (a1 - (l0.length : Int))) < 0 then (some (-1)) else (some (wrap64 (a1 - (l0.length : Int))))) = some r := h
 clear h
 by_cases c3 : (wrap64 (a1 - (l0.length : Int))) < 0
 ·rw [if_pos c3] at H
  have c3b0 : decide ((wrap64 (a1 - (l0.length : Int))) < 0) = true := decide_eq_true c3
  clear c3
  obtain rfl := Option.some.inj H
  simp only [Option.some.injEq, Prod.mk.injEq] at H
  obtain ⟨rfl⟩ := H
  go_enter Tryd.func107, Tryd.ntmps107
  go_wp2
  go_ret
  exact ⟨by first | rfl | (simp; done) | (simp [*]; done) | (simp [wrap64]; done), by repeat (first | exact Drawn0.refl _ | apply Drawn0.step)⟩
 ·rw [if_neg c3] at H
  have c3b0 : decide ((wrap64 (a1 - (l0.length : Int))) < 0) = false := decide_eq_false c3
  clear c3
  obtain rfl := Option.some.inj H
  simp only [Option.some.injEq, Prod.mk.injEq] at H
  obtain ⟨rfl⟩ := H
  go_enter Tryd.func107, Tryd.ntmps107
  go_wp2
  go_ret
  exact ⟨by first | rfl | (simp; done) | (simp [*]; done) | (simp [wrap64]; done), by repeat (first | exact Drawn0.refl _ | apply Drawn0.step)⟩
/-! ### laws_szInt64SS: function 46 -/
def laws_szInt64SS.l0 : Nat → List (List Int) → Int → Int → Option (Int)
 | 0, _, _, _ => none
 | k + 1, x0, x1, x5 => if x5 < (x0.length : Int) then (if 0 ≤ x5 then ((laws_szInt64S.f (rd_L2 x0 x5) x1).bind fun t116 => (if t116 < 0 then (some (-1)) else (laws_szInt64SS.l0 k x0 t116 (wrap64 (x5 + 1))))) else (none)) else (some x1)
def laws_szInt64SS.f (k : Nat) (l0 : List (List Int)) (a1 : Int) : Option (Int) := if (wrap64 (a1 - (l0.length : Int))) < 0 then (some (-1)) else (laws_szInt64SS.l0 k l0 (wrap64 (a1 - (l0.length : Int))) 0)
theorem laws_szInt64SS.mono_l : ∀ k, (∀ y0 y1 y2, LeO (laws_szInt64SS.l0 k y0 y1 y2) (laws_szInt64SS.l0 (k + 1) y0 y1 y2))
 | 0 => fun _ _ _ r h => by simp [laws_szInt64SS.l0] at h
 | k + 1 => by
  have ih0 := laws_szInt64SS.mono_l k
  ·intro y0 y1 y2
   unfold laws_szInt64SS.l0
   repeat' first
   | (with_reducible exact ih0 _ _ _)
   | (with_reducible exact LeO.refl _)
   | (with_reducible exact LeO.none _)
   | (with_reducible refine LeO.ite ?_ ?_)
   | (with_reducible refine LeO.bind ?_ (fun _ => ?_))
   | exact ih0 _ _ _
   | exact LeO.none _
   | refine LeO.ite ?_ ?_
   | refine LeO.bind ?_ (fun _ => ?_)
theorem laws_szInt64SS.mono : ∀ a0 a1 k, LeO (laws_szInt64SS.f k a0 a1) (laws_szInt64SS.f (k + 1) a0 a1) := by
 intro a0 a1 k
 have ih0 := laws_szInt64SS.mono_l k
 unfold laws_szInt64SS.f
 repeat' first
   | (with_reducible exact ih0 _ _ _)
   | (with_reducible exact LeO.refl _)
   | (with_reducible exact LeO.none _)
   | (with_reducible refine LeO.ite ?_ ?_)
   | (with_reducible refine LeO.bind ?_ (fun _ => ?_))
   | exact ih0 _ _ _
   | exact LeO.none _
   | refine LeO.ite ?_ ?_
   | refine LeO.bind ?_ (fun _ => ?_)
set_option maxHeartbeats 8000000 in
set_option maxRecDepth 100000 in
theorem laws_szInt64SS.calls (k : Nat) (A0 : Option Addr) (c0 : Nat) (l0 : List (List Int)) (a1 : Int) (r : Int) (w : World) (hr0 : Kd.C (Kd.slice 2 (Kd.int .i64)) w A0 l0.length l0) (hc0 : l0.length ≤ c0) (h : laws_szInt64SS.f k l0 a1 = some r) :
  Calls Tryd.prog 46 #[.slice A0 l0.length c0, .int .i64 a1] w fun e w' => e = .returned (.int .i64 r) ∧ Drawn0 w w' := by
 have HR0 := Aside0.mk hr0
 have HC0 := Aside0.mk hc0
 clear hr0 hc0
 have H : (if (wrap64 (a1 - (l0.length : Int))) < 0 then (some (-1)) else (laws_szInt64SS.l0 k l0 (wrap64 (a1 - (l0.length : Int))) 0)) = some r := h
 clear h
 by_cases c3 : (wrap64 (a1 - (l0.length : Int))) < 0
 ·rw [if_pos c3] at H
  have c3b0 : decide ((wrap64 (a1 - (l0.length : Int))) < 0) = true := decide_eq_true c3
  clear c3
  obtain rfl := Option.some.inj H
  simp only [Option.some.injEq, Prod.mk.injEq] at H
  obtain ⟨rfl⟩ := H
  go_enter Tryd.func46, Tryd.ntmps46
  go_wp2
  go_ret
  exact ⟨by first | rfl | (simp; done) | (simp [*]; done) | (simp [wrap64]; done), by repeat (first | exact Drawn0.refl _ | apply Drawn0.step)⟩
 ·rw [if_neg c3] at H
  have c3b0 : decide ((wrap64 (a1 - (l0.length : Int))) < 0) = false := decide_eq_false c3
  clear c3
  have H' := Aside0.mk H
  clear H
  go_enter Tryd.func46, Tryd.ntmps46
  go_wp2
  go_loopg [1, 5] k (fun kq v1 v5 w' => ∃ (x1_1 : Int) (x5_1 : Int), v1 = .int .i64 x1_1 ∧ v5 = .int .i64 x5_1 ∧ Aside0 (laws_szInt64SS.l0 kq l0 x1_1 x5_1 = some r) ∧ Aside0 (kq ≤ k) ∧ Drawn0 w w')
  case atStart => exact ⟨(wrap64 (a1 - (l0.length : Int))), (0), (by first | rfl | (simp; done) | (simp [*]; done) | (simp [wrap64]; done)), (by first | rfl | (simp; done) | (simp [*]; done) | (simp [wrap64]; done)), H', ⟨Nat.le_refl _⟩, by repeat (first | exact Drawn0.refl _ | apply Drawn0.step)⟩
  case round =>
   clear H'
   try clear p2
   try clear c3
   try clear c3b0
   obtain ⟨x1_1, x5_1, rfl, rfl, HA, HK1, ⟨m1, rfl⟩⟩ := hrel
   cases gk with
   | zero => exact absurd HA.out (by simp [laws_szInt64SS.l0])
   | succ k1 =>
    have H := HA.out
    clear HA
    simp only [laws_szInt64SS.l0] at H
    by_cases c4 : x5_1 < (l0.length : Int)
    ·rw [if_pos c4] at H
     have c4b0 : decide (x5_1 < (l0.length : Int)) = true := decide_eq_true c4
     clear c4
     by_cases c5 : 0 ≤ x5_1
     ·rw [if_pos c5] at H
      have c5b0 : decide (0 ≤ x5_1) = true := decide_eq_true c5
      clear c5
      replace H := Option.bind_eq_some_iff.mp H
      obtain ⟨t116, A60, H⟩ := H
      replace H : (if t116 < 0 then (some (-1)) else (laws_szInt64SS.l0 k1 l0 t116 (wrap64 (x5_1 + 1)))) = some r := H
      have A6 := Aside0.mk A60
      clear A60
      by_cases c7 : t116 < 0
      ·rw [if_pos c7] at H
       have c7b0 : decide (t116 < 0) = true := decide_eq_true c7
       clear c7
       obtain rfl := Option.some.inj H
       simp only [Option.some.injEq, Prod.mk.injEq] at H
       obtain ⟨rfl⟩ := H
       have p115 : 0 ≤ (x5_1 : Int) := of_decide_eq_true (by first | (with_reducible assumption) | assumption)
       have q115 : x5_1 < (l0.length : Int) := of_decide_eq_true (by first | (with_reducible assumption) | assumption)
       obtain ⟨ad115, A115_0, c115_0, e115, hx115_0, hl115_0, hi115_0⟩ := at_L2 HR0.out x5_1 p115 q115
       cases e115
       have HR115_0 := Aside0.mk hi115_0
       have HC115_0 := Aside0.mk hl115_0
       clear hi115_0 hl115_0
       replace p115 := eq_true p115
       replace q115 := eq_true q115
       go_wp2_with (first | ((with_reducible refine gate_callee (f := 107) rfl ?_); refine goesL_ (some 23) rfl rfl Tryd.func107 (by kernel_rfl) rfl #[.slice A115_0 (rd_L2 l0 x5_1).length c115_0, .int .i64 x1_1] rfl (by (try simp only [List.map_toArray, List.map_cons, List.map_nil]); first | done | rfl | (simp only [List.length_drop, List.length_take]; rfl)) ?_; (with_reducible refine (laws_szInt64S.calls _ _ (rd_L2 l0 x5_1) x1_1 t116 _ ?side1 ?side2 A6.out).mono ?_); (case side1 => repeat (first | exact HR115_0.out | (with_reducible refine Kd.C_alloc ?_ _) | (with_reducible refine Kd.C_drewN ?_ _) | (with_reducible refine Kd.C_drew ?_))); (case side2 => exact HC115_0.out); rintro e w' ⟨rfl, ⟨nd, rfl⟩⟩; refine ⟨_, rfl, ?_⟩))
       go_ret
       exact ⟨by first | rfl | (simp; done) | (simp [*]; done) | (simp [wrap64]; done), by repeat (first | exact Drawn0.refl _ | apply Drawn0.step)⟩
      ·rw [if_neg c7] at H
       have c7b0 : decide (t116 < 0) = false := decide_eq_false c7
       clear c7
       have H' := Aside0.mk H
       clear H
       have p115 : 0 ≤ (x5_1 : Int) := of_decide_eq_true (by first | (with_reducible assumption) | assumption)
       have q115 : x5_1 < (l0.length : Int) := of_decide_eq_true (by first | (with_reducible assumption) | assumption)
       obtain ⟨ad115, A115_0, c115_0, e115, hx115_0, hl115_0, hi115_0⟩ := at_L2 HR0.out x5_1 p115 q115
       cases e115
       have HR115_0 := Aside0.mk hi115_0
       have HC115_0 := Aside0.mk hl115_0
       clear hi115_0 hl115_0
       replace p115 := eq_true p115
       replace q115 := eq_true q115
       go_wp2_with (first | ((with_reducible refine gate_callee (f := 107) rfl ?_); refine goesL_ (some 23) rfl rfl Tryd.func107 (by kernel_rfl) rfl #[.slice A115_0 (rd_L2 l0 x5_1).length c115_0, .int .i64 x1_1] rfl (by (try simp only [List.map_toArray, List.map_cons, List.map_nil]); first | done | rfl | (simp only [List.length_drop, List.length_take]; rfl)) ?_; (with_reducible refine (laws_szInt64S.calls _ _ (rd_L2 l0 x5_1) x1_1 t116 _ ?side1 ?side2 A6.out).mono ?_); (case side1 => repeat (first | exact HR115_0.out | (with_reducible refine Kd.C_alloc ?_ _) | (with_reducible refine Kd.C_drewN ?_ _) | (with_reducible refine Kd.C_drew ?_))); (case side2 => exact HC115_0.out); rintro e w' ⟨rfl, ⟨nd, rfl⟩⟩; refine ⟨_, rfl, ?_⟩))
       go_roundg k1
       case measure => have := HK1.out; omega
       case rel => exact ⟨(t116), (wrap64 (x5_1 + 1)), (by first | rfl | (simp; done) | (simp [*]; done) | (simp [wrap64]; done)), (by first | rfl | (simp; done) | (simp [*]; done) | (simp [wrap64]; done)), H', ⟨by have := HK1.out; omega⟩, by repeat (first | exact Drawn0.refl _ | apply Drawn0.step)⟩
     ·rw [if_neg c5] at H
      exact absurd H (by simp)
    ·rw [if_neg c4] at H
     have c4b0 : decide (x5_1 < (l0.length : Int)) = false := decide_eq_false c4
     clear c4
     obtain rfl := Option.some.inj H
     simp only [Option.some.injEq, Prod.mk.injEq] at H
     obtain ⟨rfl⟩ := H
     go_wp2
     go_ret
     exact ⟨by first | rfl | (simp; done) | (simp [*]; done) | (simp [wrap64]; done), by repeat (first | exact Drawn0.refl _ | apply Drawn0.step)⟩
/-! ### laws_szRelation: function 12 -/
def laws_szRelation.f (k : Nat) (a0_0 : Int) (a0_1 : Int) (l0_2 : List Bool) (l0_3 : List (List Int)) (a1 : Int) : Option (Int) := (laws_szBoolS.f l0_2 a1).bind fun t118 => (if t118 < 0 then (some (-1)) else ((laws_szInt64SS.f k l0_3 t118).bind fun t119 => (if t119 < 0 then (some (-1)) else (some t119))))
theorem laws_szRelation.mono : ∀ a0 a1 a2 a3 a4 k, LeO (laws_szRelation.f k a0 a1 a2 a3 a4) (laws_szRelation.f (k + 1) a0 a1 a2 a3 a4) := by
 intro a0 a1 a2 a3 a4 k
 unfold laws_szRelation.f
 repeat' first
   | (with_reducible exact laws_szInt64SS.mono _ _ _)
   | (with_reducible exact LeO.refl _)
   | (with_reducible exact LeO.none _)
   | (with_reducible refine LeO.ite ?_ ?_)
   | (with_reducible refine LeO.bind ?_ (fun _ => ?_))
   | exact laws_szInt64SS.mono _ _ _
   | exact LeO.none _
   | refine LeO.ite ?_ ?_
   | refine LeO.bind ?_ (fun _ => ?_)
set_option maxHeartbeats 8000000 in
set_option maxRecDepth 100000 in
theorem laws_szRelation.calls (k : Nat) (a0_0 : Int) (a0_1 : Int) (A0_2 : Option Addr) (c0_2 : Nat) (l0_2 : List Bool) (A0_3 : Option Addr) (c0_3 : Nat) (l0_3 : List (List Int)) (a1 : Int) (r : Int) (w : World) (hr0_2 : Kd.C Kd.bool w A0_2 l0_2.length l0_2) (hc0_2 : l0_2.length ≤ c0_2) (hr0_3 : Kd.C (Kd.slice 2 (Kd.int .i64)) w A0_3 l0_3.length l0_3) (hc0_3 : l0_3.length ≤ c0_3) (h : laws_szRelation.f k a0_0 a0_1 l0_2 l0_3 a1 = some r) :
  Calls Tryd.prog 12 #[.agg #[.int .i64 a0_0, .int .i64 a0_1, .slice A0_2 l0_2.length c0_2, .slice A0_3 l0_3.length c0_3], .int .i64 a1] w fun e w' => e = .returned (.int .i64 r) ∧ Below w.heap.size w w' := by
 have hu25 := Tryd.underlying25
 have HR0_2 := Aside0.mk hr0_2
 have HC0_2 := Aside0.mk hc0_2
 clear hr0_2 hc0_2
 have HR0_3 := Aside0.mk hr0_3
 have HC0_3 := Aside0.mk hc0_3
 clear hr0_3 hc0_3
 have HB := Aside0.mk (Below.refl w.heap.size w)
 have H : ((laws_szBoolS.f l0_2 a1).bind fun t118 => (if t118 < 0 then (some (-1)) else ((laws_szInt64SS.f k l0_3 t118).bind fun t119 => (if t119 < 0 then (some (-1)) else (some t119))))) = some r := h
 clear h
 replace H := Option.bind_eq_some_iff.mp H
 obtain ⟨t118, A30, H⟩ := H
 replace H : (if t118 < 0 then (some (-1)) else ((laws_szInt64SS.f k l0_3 t118).bind fun t119 => (if t119 < 0 then (some (-1)) else (some t119)))) = some r := H
 have A3 := Aside0.mk A30
 clear A30
 by_cases c4 : t118 < 0
 ·rw [if_pos c4] at H
  have c4b0 : decide (t118 < 0) = true := decide_eq_true c4
  clear c4
  obtain rfl := Option.some.inj H
  simp only [Option.some.injEq, Prod.mk.injEq] at H
  obtain ⟨rfl⟩ := H
  go_enter Tryd.func12, Tryd.ntmps12
  go_wp2_with (first | ((with_reducible refine gate_dst (N := 2) rfl ?_); refine box_event ?hg (N := 2) ?hd (cs := #[.int .i64 a0_0, .int .i64 a0_1, .slice A0_2 l0_2.length c0_2, .slice A0_3 l0_3.length c0_3]) (t := 25) ?hr ?_; (case hd => rfl); (case hg => rfl); (case hr => first | (go_simp; done) | (go_simp; rfl)); intro gb117 hg w5 hbox hb; have n0_ := Aside0.mk (below_step (by repeat (first | (with_reducible first | exact HB.out | apply below_alloc | apply pw_below_drewN | apply below_drew1) | exact HB.out)) hb); have n1_ := Aside0.mk (hbox); have n2_ := Aside0.mk ((by rw [hg]; exact (below_size (by repeat (first | (with_reducible first | exact HB.out | apply below_alloc | apply pw_below_drewN | apply below_drew1) | exact HB.out))) : w.heap.size ≤ gb117)); have n3_ := Aside0.mk ((by rw [hg]; exact (below_size (by repeat (first | (with_reducible first | exact HB.out | apply below_alloc | apply pw_below_drewN | apply below_drew1) | exact HB.out))) : w.heap.size ≤ gb117)); clear HB; have HB := n0_; have BK117 := n1_; have GW117 := n2_; have GE117 := n3_; clear n0_ n1_ n2_ n3_; clear hb hbox hg; have hcz6_0 : w5.cell? ⟨gb117, 0, none⟩ = some (.int .i64 a0_0) := (blk_cell BK117.out 0).trans rfl; have hcz6_1 : w5.cell? ⟨gb117, 1, none⟩ = some (.int .i64 a0_1) := (blk_cell BK117.out 1).trans rfl; have hcz6_2 : w5.cell? ⟨gb117, 2, none⟩ = some (.slice A0_2 l0_2.length c0_2) := (blk_cell BK117.out 2).trans rfl; have hcz6_3 : w5.cell? ⟨gb117, 3, none⟩ = some (.slice A0_3 l0_3.length c0_3) := (blk_cell BK117.out 3).trans rfl; have hfz6_0 := blk_frozen BK117.out 0; have hfz6_1 := blk_frozen BK117.out 1; have hfz6_2 := blk_frozen BK117.out 2; have hfz6_3 := blk_frozen BK117.out 3) | ((with_reducible refine gate_callee (f := 45) rfl ?_); refine goesL_ (some 8) rfl rfl Tryd.func45 (by kernel_rfl) rfl #[.slice A0_2 l0_2.length c0_2, .int .i64 a1] rfl (by (try simp only [List.map_toArray, List.map_cons, List.map_nil]); first | done | rfl | (simp only [List.length_drop, List.length_take]; rfl)) ?_; (with_reducible refine (laws_szBoolS.calls _ _ l0_2 a1 t118 _ ?side1 ?side2 A3.out).mono ?_); (case side1 => repeat (first | exact (Kd.C_below HR0_2.out HB.out) | (with_reducible refine Kd.C_alloc ?_ _) | (with_reducible refine Kd.C_drewN ?_ _) | (with_reducible refine Kd.C_drew ?_))); (case side2 => exact HC0_2.out); rintro e w' ⟨rfl, ⟨nd, rfl⟩⟩; refine ⟨_, rfl, ?_⟩))
  go_ret
  exact ⟨by first | rfl | (simp [errW_none, errW_some] <;> rfl) | (simp [*, errW_none, errW_some] <;> rfl), by repeat (first | (with_reducible first | exact HB.out | apply below_alloc | apply pw_below_drewN | apply below_drew1 | refine below_set ?_ GE117.out) | exact HB.out)⟩
 ·rw [if_neg c4] at H
  have c4b0 : decide (t118 < 0) = false := decide_eq_false c4
  clear c4
  replace H := Option.bind_eq_some_iff.mp H
  obtain ⟨t119, A70, H⟩ := H
  replace H : (if t119 < 0 then (some (-1)) else (some t119)) = some r := H
  have A7 := Aside0.mk A70
  clear A70
  by_cases c8 : t119 < 0
  ·rw [if_pos c8] at H
   have c8b0 : decide (t119 < 0) = true := decide_eq_true c8
   clear c8
   obtain rfl := Option.some.inj H
   simp only [Option.some.injEq, Prod.mk.injEq] at H
   obtain ⟨rfl⟩ := H
   go_enter Tryd.func12, Tryd.ntmps12
   go_wp2_with (first | ((with_reducible refine gate_dst (N := 2) rfl ?_); refine box_event ?hg (N := 2) ?hd (cs := #[.int .i64 a0_0, .int .i64 a0_1, .slice A0_2 l0_2.length c0_2, .slice A0_3 l0_3.length c0_3]) (t := 25) ?hr ?_; (case hd => rfl); (case hg => rfl); (case hr => first | (go_simp; done) | (go_simp; rfl)); intro gb117 hg w9 hbox hb; have n0_ := Aside0.mk (below_step (by repeat (first | (with_reducible first | exact HB.out | apply below_alloc | apply pw_below_drewN | apply below_drew1) | exact HB.out)) hb); have n1_ := Aside0.mk (hbox); have n2_ := Aside0.mk ((by rw [hg]; exact (below_size (by repeat (first | (with_reducible first | exact HB.out | apply below_alloc | apply pw_below_drewN | apply below_drew1) | exact HB.out))) : w.heap.size ≤ gb117)); have n3_ := Aside0.mk ((by rw [hg]; exact (below_size (by repeat (first | (with_reducible first | exact HB.out | apply below_alloc | apply pw_below_drewN | apply below_drew1) | exact HB.out))) : w.heap.size ≤ gb117)); clear HB; have HB := n0_; have BK117 := n1_; have GW117 := n2_; have GE117 := n3_; clear n0_ n1_ n2_ n3_; clear hb hbox hg; have hcz10_0 : w9.cell? ⟨gb117, 0, none⟩ = some (.int .i64 a0_0) := (blk_cell BK117.out 0).trans rfl; have hcz10_1 : w9.cell? ⟨gb117, 1, none⟩ = some (.int .i64 a0_1) := (blk_cell BK117.out 1).trans rfl; have hcz10_2 : w9.cell? ⟨gb117, 2, none⟩ = some (.slice A0_2 l0_2.length c0_2) := (blk_cell BK117.out 2).trans rfl; have hcz10_3 : w9.cell? ⟨gb117, 3, none⟩ = some (.slice A0_3 l0_3.length c0_3) := (blk_cell BK117.out 3).trans rfl; have hfz10_0 := blk_frozen BK117.out 0; have hfz10_1 := blk_frozen BK117.out 1; have hfz10_2 := blk_frozen BK117.out 2; have hfz10_3 := blk_frozen BK117.out 3) | ((with_reducible refine gate_callee (f := 45) rfl ?_); refine goesL_ (some 8) rfl rfl Tryd.func45 (by kernel_rfl) rfl #[.slice A0_2 l0_2.length c0_2, .int .i64 a1] rfl (by (try simp only [List.map_toArray, List.map_cons, List.map_nil]); first | done | rfl | (simp only [List.length_drop, List.length_take]; rfl)) ?_; (with_reducible refine (laws_szBoolS.calls _ _ l0_2 a1 t118 _ ?side1 ?side2 A3.out).mono ?_); (case side1 => repeat (first | exact (Kd.C_below HR0_2.out HB.out) | (with_reducible refine Kd.C_alloc ?_ _) | (with_reducible refine Kd.C_drewN ?_ _) | (with_reducible refine Kd.C_drew ?_))); (case side2 => exact HC0_2.out); rintro e w' ⟨rfl, ⟨nd, rfl⟩⟩; refine ⟨_, rfl, ?_⟩) | ((with_reducible refine gate_callee (f := 46) rfl ?_); refine goesL_ (some 14) rfl rfl Tryd.func46 (by kernel_rfl) rfl #[.slice A0_3 l0_3.length c0_3, .int .i64 t118] rfl (by (try simp only [List.map_toArray, List.map_cons, List.map_nil]); first | done | rfl | (simp only [List.length_drop, List.length_take]; rfl)) ?_; (with_reducible refine (laws_szInt64SS.calls k _ _ l0_3 t118 t119 _ ?side1 ?side2 A7.out).mono ?_); (case side1 => repeat (first | exact (Kd.C_below HR0_3.out (by repeat (first | (with_reducible first | exact HB.out | apply below_alloc | apply pw_below_drewN | apply below_drew1 | refine below_set ?_ GE117.out) | exact HB.out))) | (with_reducible refine Kd.C_alloc ?_ _) | (with_reducible refine Kd.C_drewN ?_ _) | (with_reducible refine Kd.C_drew ?_))); (case side2 => exact HC0_3.out); rintro e w' ⟨rfl, ⟨nd, rfl⟩⟩; refine ⟨_, rfl, ?_⟩))
   go_ret
   exact ⟨by first | rfl | (simp [errW_none, errW_some] <;> rfl) | (simp [*, errW_none, errW_some] <;> rfl), by repeat (first | (with_reducible first | exact HB.out | apply below_alloc | apply pw_below_drewN | apply below_drew1 | refine below_set ?_ GE117.out) | exact HB.out)⟩
  ·rw [if_neg c8] at H
   have c8b0 : decide (t119 < 0) = false := decide_eq_false c8
   clear c8
   obtain rfl := Option.some.inj H
   simp only [Option.some.injEq, Prod.mk.injEq] at H
   obtain ⟨rfl⟩ := H
   go_enter Tryd.func12, Tryd.ntmps12
   go_wp2_with (first | ((with_reducible refine gate_dst (N := 2) rfl ?_); refine box_event ?hg (N := 2) ?hd (cs := #[.int .i64 a0_0, .int .i64 a0_1, .slice A0_2 l0_2.length c0_2, .slice A0_3 l0_3.length c0_3]) (t := 25) ?hr ?_; (case hd => rfl); (case hg => rfl); (case hr => first | (go_simp; done) | (go_simp; rfl)); intro gb117 hg w11 hbox hb; have n0_ := Aside0.mk (below_step (by repeat (first | (with_reducible first | exact HB.out | apply below_alloc | apply pw_below_drewN | apply below_drew1) | exact HB.out)) hb); have n1_ := Aside0.mk (hbox); have n2_ := Aside0.mk ((by rw [hg]; exact (below_size (by repeat (first | (with_reducible first | exact HB.out | apply below_alloc | apply pw_below_drewN | apply below_drew1) | exact HB.out))) : w.heap.size ≤ gb117)); have n3_ := Aside0.mk ((by rw [hg]; exact (below_size (by repeat (first | (with_reducible first | exact HB.out | apply below_alloc | apply pw_below_drewN | apply below_drew1) | exact HB.out))) : w.heap.size ≤ gb117)); clear HB; have HB := n0_; have BK117 := n1_; have GW117 := n2_; have GE117 := n3_; clear n0_ n1_ n2_ n3_; clear hb hbox hg; have hcz12_0 : w11.cell? ⟨gb117, 0, none⟩ = some (.int .i64 a0_0) := (blk_cell BK117.out 0).trans rfl; have hcz12_1 : w11.cell? ⟨gb117, 1, none⟩ = some (.int .i64 a0_1) := (blk_cell BK117.out 1).trans rfl; have hcz12_2 : w11.cell? ⟨gb117, 2, none⟩ = some (.slice A0_2 l0_2.length c0_2) := (blk_cell BK117.out 2).trans rfl; have hcz12_3 : w11.cell? ⟨gb117, 3, none⟩ = some (.slice A0_3 l0_3.length c0_3) := (blk_cell BK117.out 3).trans rfl; have hfz12_0 := blk_frozen BK117.out 0; have hfz12_1 := blk_frozen BK117.out 1; have hfz12_2 := blk_frozen BK117.out 2; have hfz12_3 := blk_frozen BK117.out 3) | ((with_reducible refine gate_callee (f := 45) rfl ?_); refine goesL_ (some 8) rfl rfl Tryd.func45 (by kernel_rfl) rfl #[.slice A0_2 l0_2.length c0_2, .int .i64 a1] rfl (by (try simp only [List.map_toArray, List.map_cons, List.map_nil]); first | done | rfl | (simp only [List.length_drop, List.length_take]; rfl)) ?_; (with_reducible refine (laws_szBoolS.calls _ _ l0_2 a1 t118 _ ?side1 ?side2 A3.out).mono ?_); (case side1 => repeat (first | exact (Kd.C_below HR0_2.out HB.out) | (with_reducible refine Kd.C_alloc ?_ _) | (with_reducible refine Kd.C_drewN ?_ _) | (with_reducible refine Kd.C_drew ?_))); (case side2 => exact HC0_2.out); rintro e w' ⟨rfl, ⟨nd, rfl⟩⟩; refine ⟨_, rfl, ?_⟩) | ((with_reducible refine gate_callee (f := 46) rfl ?_); refine goesL_ (some 14) rfl rfl Tryd.func46 (by kernel_rfl) rfl #[.slice A0_3 l0_3.length c0_3, .int .i64 t118] rfl (by (try simp only [List.map_toArray, List.map_cons, List.map_nil]); first | done | rfl | (simp only [List.length_drop, List.length_take]; rfl)) ?_; (with_reducible refine (laws_szInt64SS.calls k _ _ l0_3 t118 t119 _ ?side1 ?side2 A7.out).mono ?_); (case side1 => repeat (first | exact (Kd.C_below HR0_3.out (by repeat (first | (with_reducible first | exact HB.out | apply below_alloc | apply pw_below_drewN | apply below_drew1 | refine below_set ?_ GE117.out) | exact HB.out))) | (with_reducible refine Kd.C_alloc ?_ _) | (with_reducible refine Kd.C_drewN ?_ _) | (with_reducible refine Kd.C_drew ?_))); (case side2 => exact HC0_3.out); rintro e w' ⟨rfl, ⟨nd, rfl⟩⟩; refine ⟨_, rfl, ?_⟩))
   go_ret
   exact ⟨by first | rfl | (simp [errW_none, errW_some] <;> rfl) | (simp [*, errW_none, errW_some] <;> rfl), by repeat (first | (with_reducible first | exact HB.out | apply below_alloc | apply pw_below_drewN | apply below_drew1 | refine below_set ?_ GE117.out) | exact HB.out)⟩
/-! ### laws_eqBoolS: function 55 -/
def laws_eqBoolS.l0 : Nat → List Bool → List Bool → Int → Option (Bool)
 | 0, _, _, _ => none
 | k + 1, x0, x1, x5 => if x5 < (x0.length : Int) then (if 0 ≤ x5 then (if x5 < (x1.length : Int) then (if ((rdOf false x0 x5) != (rdOf false x1 x5)) = true then (some false) else (laws_eqBoolS.l0 k x0 x1 (wrap64 (x5 + 1)))) else (none)) else (none)) else (some true)
def laws_eqBoolS.f (k : Nat) (l0 : List Bool) (l1 : List Bool) : Option (Bool) := if (l0.length : Int) = (l1.length : Int) then (laws_eqBoolS.l0 k l0 l1 0) else (some false)
theorem laws_eqBoolS.mono_l : ∀ k, (∀ y0 y1 y2, LeO (laws_eqBoolS.l0 k y0 y1 y2) (laws_eqBoolS.l0 (k + 1) y0 y1 y2))
 | 0 => fun _ _ _ r h => by simp [laws_eqBoolS.l0] at h
 | k + 1 => by
  have ih0 := laws_eqBoolS.mono_l k
  ·intro y0 y1 y2
   unfold laws_eqBoolS.l0
   repeat' first
   | (with_reducible exact ih0 _ _ _)
   | (with_reducible exact LeO.refl _)
   | (with_reducible exact LeO.none _)
   | (with_reducible refine LeO.ite ?_ ?_)
   | (with_reducible refine LeO.bind ?_ (fun _ => ?_))
   | exact ih0 _ _ _
   | exact LeO.none _
   | refine LeO.ite ?_ ?_
   | refine LeO.bind ?_ (fun _ => ?_)
theorem laws_eqBoolS.mono : ∀ a0 a1 k, LeO (laws_eqBoolS.f k a0 a1) (laws_eqBoolS.f (k + 1) a0 a1) := by
 intro a0 a1 k
 have ih0 := laws_eqBoolS.mono_l k
 unfold laws_eqBoolS.f
 repeat' first
   | (with_reducible exact ih0 _ _ _)
   | (with_reducible exact LeO.refl _)
   | (with_reducible exact LeO.none _)
   | (with_reducible refine LeO.ite ?_ ?_)
   | (with_reducible refine LeO.bind ?_ (fun _ => ?_))
   | exact ih0 _ _ _
   | exact LeO.none _
   | refine LeO.ite ?_ ?_
   | refine LeO.bind ?_ (fun _ => ?_)
set_option maxHeartbeats 8000000 in
set_option maxRecDepth 100000 in
theorem laws_eqBoolS.calls (k : Nat) (A0 : Option Addr) (c0 : Nat) (l0 : List Bool) (A1 : Option Addr) (c1 : Nat) (l1 : List Bool) (r : Bool) (w : World) (hr0 : Kd.C Kd.bool w A0 l0.length l0) (hc0 : l0.length ≤ c0) (hr1 : Kd.C Kd.bool w A1 l1.length l1) (hc1 : l1.length ≤ c1) (h : laws_eqBoolS.f k l0 l1 = some r) :
  Calls Tryd.prog 55 #[.slice A0 l0.length c0, .slice A1 l1.length c1] w fun e w' => e = .returned (.bool r) ∧ Drawn0 w w' := by
 have HR0 := Aside0.mk hr0
 have HC0 := Aside0.mk hc0
 clear hr0 hc0
 have HR1 := Aside0.mk hr1
 have HC1 := Aside0.mk hc1
 clear hr1 hc1
 have H : (if (l0.length : Int) = (l1.length : Int) then (laws_eqBoolS.l0 k l0 l1 0) else (some false)) = some r := h
 clear h
 by_cases c3 : (l0.length : Int) = (l1.length : Int)
 ·rw [if_pos c3] at H
  have c3b0 : ((l0.length : Int) == (l1.length : Int)) = true := beq_iff_eq.mpr c3
  have c3b1 : ((l0.length : Int) != (l1.length : Int)) = false := bne_eq_false_iff_eq.mpr c3
  have c3b2 : (l0.length == l1.length) = true := by first | simpa using c3 | (simp at c3 ⊢; omega)
  clear c3
  have H' := Aside0.mk H
  clear H
  go_enter Tryd.func55, Tryd.ntmps55
  go_wp2
  repeat (go_quiet (fail); try go_wp2)
  go_loopg [5] k (fun kq v5 w' => ∃ (x5_1 : Int), v5 = .int .i64 x5_1 ∧ Aside0 (laws_eqBoolS.l0 kq l0 l1 x5_1 = some r) ∧ Aside0 (kq ≤ k) ∧ Drawn0 w w')
  case atStart => exact ⟨(0), (by first | rfl | (simp; done) | (simp [*]; done) | (simp [wrap64]; done)), H', ⟨Nat.le_refl _⟩, by repeat (first | exact Drawn0.refl _ | apply Drawn0.step)⟩
  case round =>
   clear H'
   try clear c1
   try clear p2
   try clear c3
   try clear c3b0
   try clear c3b1
   try clear c3b2
   obtain ⟨x5_1, rfl, HA, HK1, ⟨m1, rfl⟩⟩ := hrel
   cases gk with
   | zero => exact absurd HA.out (by simp [laws_eqBoolS.l0])
   | succ k1 =>
    have H := HA.out
    clear HA
    simp only [laws_eqBoolS.l0] at H
    by_cases c4 : x5_1 < (l0.length : Int)
    ·rw [if_pos c4] at H
     have c4b0 : decide (x5_1 < (l0.length : Int)) = true := decide_eq_true c4
     clear c4
     by_cases c5 : 0 ≤ x5_1
     ·rw [if_pos c5] at H
      have c5b0 : decide (0 ≤ x5_1) = true := decide_eq_true c5
      clear c5
      by_cases c6 : x5_1 < (l1.length : Int)
      ·rw [if_pos c6] at H
       have c6b0 : decide (x5_1 < (l1.length : Int)) = true := decide_eq_true c6
       clear c6
       by_cases c7 : ((rdOf false l0 x5_1) != (rdOf false l1 x5_1)) = true
       ·rw [if_pos c7] at H
        have c7b0 : ((rdOf false l0 x5_1) != (rdOf false l1 x5_1)) = true := c7
        (try (have c7b1 : decide ((rdOf false l0 x5_1) = (rdOf false l1 x5_1)) = false := by simpa using c7))
        (try (have c7b2 : ((rdOf false l0 x5_1) == (rdOf false l1 x5_1)) = false := by simpa using c7))
        (try (have c7b3 : ¬ ((rdOf false l0 x5_1) = (rdOf false l1 x5_1)) := by simpa using c7))
        clear c7
        obtain rfl := Option.some.inj H
        simp only [Option.some.injEq, Prod.mk.injEq] at H
        obtain ⟨rfl⟩ := H
        have p120 : 0 ≤ (x5_1 : Int) := of_decide_eq_true (by first | (with_reducible assumption) | assumption)
        have q120 : x5_1 < (l0.length : Int) := of_decide_eq_true (by first | (with_reducible assumption) | assumption)
        obtain ⟨ad120, e120, hx120_0⟩ := Kd.at_bool HR0.out x5_1 p120 q120
        cases e120
        replace p120 := eq_true p120
        replace q120 := eq_true q120
        have p121 : 0 ≤ (x5_1 : Int) := of_decide_eq_true (by first | (with_reducible assumption) | assumption)
        have q121 : x5_1 < (l1.length : Int) := of_decide_eq_true (by first | (with_reducible assumption) | assumption)
        obtain ⟨ad121, e121, hx121_0⟩ := Kd.at_bool HR1.out x5_1 p121 q121
        cases e121
        replace p121 := eq_true p121
        replace q121 := eq_true q121
        go_wp2
        repeat (go_quiet (fail); try go_wp2)
        go_ret
        exact ⟨by first | rfl | (simp; done) | (simp [*]; done) | (simp [wrap64]; done), by repeat (first | exact Drawn0.refl _ | apply Drawn0.step)⟩
       ·rw [if_neg c7] at H
        have c7b0 : ((rdOf false l0 x5_1) != (rdOf false l1 x5_1)) = false := by simpa using c7
        (try (have c7b1 : decide ((rdOf false l0 x5_1) = (rdOf false l1 x5_1)) = true := by simpa using c7))
        (try (have c7b2 : ((rdOf false l0 x5_1) == (rdOf false l1 x5_1)) = true := by simpa using c7))
        clear c7
        have H' := Aside0.mk H
        clear H
        have p120 : 0 ≤ (x5_1 : Int) := of_decide_eq_true (by first | (with_reducible assumption) | assumption)
        have q120 : x5_1 < (l0.length : Int) := of_decide_eq_true (by first | (with_reducible assumption) | assumption)
        obtain ⟨ad120, e120, hx120_0⟩ := Kd.at_bool HR0.out x5_1 p120 q120
        cases e120
        replace p120 := eq_true p120
        replace q120 := eq_true q120
        have p121 : 0 ≤ (x5_1 : Int) := of_decide_eq_true (by first | (with_reducible assumption) | assumption)
        have q121 : x5_1 < (l1.length : Int) := of_decide_eq_true (by first | (with_reducible assumption) | assumption)
        obtain ⟨ad121, e121, hx121_0⟩ := Kd.at_bool HR1.out x5_1 p121 q121
        cases e121
        replace p121 := eq_true p121
        replace q121 := eq_true q121
        go_wp2
        repeat (go_quiet (fail); try go_wp2)
        go_roundg k1
        case measure => have := HK1.out; omega
        case rel => exact ⟨(wrap64 (x5_1 + 1)), (by first | rfl | (simp; done) | (simp [*]; done) | (simp [wrap64]; done)), H', ⟨by have := HK1.out; omega⟩, by repeat (first | exact Drawn0.refl _ | apply Drawn0.step)⟩
      ·rw [if_neg c6] at H
       exact absurd H (by simp)
     ·rw [if_neg c5] at H
      exact absurd H (by simp)
    ·rw [if_neg c4] at H
     have c4b0 : decide (x5_1 < (l0.length : Int)) = false := decide_eq_false c4
     clear c4
     obtain rfl := Option.some.inj H
     simp only [Option.some.injEq, Prod.mk.injEq] at H
     obtain ⟨rfl⟩ := H
     go_wp2
     repeat (go_quiet (fail); try go_wp2)
     go_ret
     exact ⟨by first | rfl | (simp; done) | (simp [*]; done) | (simp [wrap64]; done), by repeat (first | exact Drawn0.refl _ | apply Drawn0.step)⟩
 ·rw [if_neg c3] at H
  have c3b0 : ((l0.length : Int) == (l1.length : Int)) = false := beq_eq_false_iff_ne.mpr c3
  have c3b1 : ((l0.length : Int) != (l1.length : Int)) = true := bne_iff_ne.mpr c3
  have c3b2 : (l0.length == l1.length) = false := by first | simpa using c3 | (simp at c3 ⊢; omega)
  obtain rfl := Option.some.inj H
  simp only [Option.some.injEq, Prod.mk.injEq] at H
  obtain ⟨rfl⟩ := H
  go_enter Tryd.func55, Tryd.ntmps55
  go_wp2
  repeat (go_quiet (fail); try go_wp2)
  go_ret
  exact ⟨by first | rfl | (simp; done) | (simp [*]; done) | (simp [wrap64]; done), by repeat (first | exact Drawn0.refl _ | apply Drawn0.step)⟩
/-! ### laws_eqInt64S: function 117 -/
def laws_eqInt64S.l0 : Nat → List Int → List Int → Int → Option (Bool)
 | 0, _, _, _ => none
 | k + 1, x0, x1, x5 => if x5 < (x0.length : Int) then (if 0 ≤ x5 then (if x5 < (x1.length : Int) then (if (rd x0 x5) = (rd x1 x5) then (laws_eqInt64S.l0 k x0 x1 (wrap64 (x5 + 1))) else (some false)) else (none)) else (none)) else (some true)
def laws_eqInt64S.f (k : Nat) (l0 : List Int) (l1 : List Int) : Option (Bool) := if (l0.length : Int) = (l1.length : Int) then (laws_eqInt64S.l0 k l0 l1 0) else (some false)
theorem laws_eqInt64S.mono_l : ∀ k, (∀ y0 y1 y2, LeO (laws_eqInt64S.l0 k y0 y1 y2) (laws_eqInt64S.l0 (k + 1) y0 y1 y2))
 | 0 => fun _ _ _ r h => by simp [laws_eqInt64S.l0] at h
 | k + 1 => by
  have ih0 := laws_eqInt64S.mono_l k
  ·intro y0 y1 y2
   unfold laws_eqInt64S.l0
   repeat' first
   | (with_reducible exact ih0 _ _ _)
   | (with_reducible exact LeO.refl _)
   | (with_reducible exact LeO.none _)
   | (with_reducible refine LeO.ite ?_ ?_)
   | (with_reducible refine LeO.bind ?_ (fun _ => ?_))
   | exact ih0 _ _ _
   | exact LeO.none _
   | refine LeO.ite ?_ ?_
   | refine LeO.bind ?_ (fun _ => ?_)
theorem laws_eqInt64S.mono : ∀ a0 a1 k, LeO (laws_eqInt64S.f k a0 a1) (laws_eqInt64S.f (k + 1) a0 a1) := by
 intro a0 a1 k
 have ih0 := laws_eqInt64S.mono_l k
 unfold laws_eqInt64S.f
 repeat' first
   | (with_reducible exact ih0 _ _ _)
   | (with_reducible exact LeO.refl _)
   | (with_reducible exact LeO.none _)
   | (with_reducible refine LeO.ite ?_ ?_)
   | (with_reducible refine LeO.bind ?_ (fun _ => ?_))
   | exact ih0 _ _ _
   | exact LeO.none _
   | refine LeO.ite ?_ ?_
   | refine LeO.bind ?_ (fun _ => ?_)
set_option maxHeartbeats 8000000 in
set_option maxRecDepth 100000 in
theorem laws_eqInt64S.calls (k : Nat) (A0 : Option Addr) (c0 : Nat) (l0 : List Int) (A1 : Option Addr) (c1 : Nat) (l1 : List Int) (r : Bool) (w : World) (hr0 : Kd.C (Kd.int .i64) w A0 l0.length l0) (hc0 : l0.length ≤ c0) (hr1 : Kd.C (Kd.int .i64) w A1 l1.length l1) (hc1 : l1.length ≤ c1) (h : laws_eqInt64S.f k l0 l1 = some r) :
  Calls Tryd.prog 117 #[.slice A0 l0.length c0, .slice A1 l1.length c1] w fun e w' => e = .returned (.bool r) ∧ Drawn0 w w' := by
 have HR0 := Aside0.mk hr0
 have HC0 := Aside0.mk hc0
 clear hr0 hc0
 have HR1 := Aside0.mk hr1
 have HC1 := Aside0.mk hc1
 clear hr1 hc1
 have H : (if (l0.length : Int) = (l1.length : Int) then (laws_eqInt64S.l0 k l0 l1 0) else (some false)) = some r := h
 clear h
 by_cases c3 : (l0.length : Int) = (l1.length : Int)
 ·rw [if_pos c3] at H
  have c3b0 : ((l0.length : Int) == (l1.length : Int)) = true := beq_iff_eq.mpr c3
  have c3b1 : ((l0.length : Int) != (l1.length : Int)) = false := bne_eq_false_iff_eq.mpr c3
  have c3b2 : (l0.length == l1.length) = true := by first | simpa using c3 | (simp at c3 ⊢; omega)
  clear c3
  have H' := Aside0.mk H
  clear H
  go_enter Tryd.func117, Tryd.ntmps117
  go_wp2
  repeat (go_quiet (fail); try go_wp2)
  go_loopg [5] k (fun kq v5 w' => ∃ (x5_1 : Int), v5 = .int .i64 x5_1 ∧ Aside0 (laws_eqInt64S.l0 kq l0 l1 x5_1 = some r) ∧ Aside0 (kq ≤ k) ∧ Drawn0 w w')
  case atStart => exact ⟨(0), (by first | rfl | (simp; done) | (simp [*]; done) | (simp [wrap64]; done)), H', ⟨Nat.le_refl _⟩, by repeat (first | exact Drawn0.refl _ | apply Drawn0.step)⟩
  case round =>
   clear H'
   try clear c1
   try clear p2
   try clear c3
   try clear c3b0
   try clear c3b1
   try clear c3b2
   obtain ⟨x5_1, rfl, HA, HK1, ⟨m1, rfl⟩⟩ := hrel
   cases gk with
   | zero => exact absurd HA.out (by simp [laws_eqInt64S.l0])
   | succ k1 =>
    have H := HA.out
    clear HA
    simp only [laws_eqInt64S.l0] at H
    by_cases c4 : x5_1 < (l0.length : Int)
    ·rw [if_pos c4] at H
     have c4b0 : decide (x5_1 < (l0.length : Int)) = true := decide_eq_true c4
     clear c4
     by_cases c5 : 0 ≤ x5_1
     ·rw [if_pos c5] at H
      have c5b0 : decide (0 ≤ x5_1) = true := decide_eq_true c5
      clear c5
      by_cases c6 : x5_1 < (l1.length : Int)
      ·rw [if_pos c6] at H
       have c6b0 : decide (x5_1 < (l1.length : Int)) = true := decide_eq_true c6
       clear c6
       by_cases c7 : (rd l0 x5_1) = (rd l1 x5_1)
       ·rw [if_pos c7] at H
        have c7b0 : ((rd l0 x5_1) == (rd l1 x5_1)) = true := beq_iff_eq.mpr c7
        have c7b1 : ((rd l0 x5_1) != (rd l1 x5_1)) = false := bne_eq_false_iff_eq.mpr c7
        clear c7
        have H' := Aside0.mk H
        clear H
        have p122 : 0 ≤ (x5_1 : Int) := of_decide_eq_true (by first | (with_reducible assumption) | assumption)
        have q122 : x5_1 < (l0.length : Int) := of_decide_eq_true (by first | (with_reducible assumption) | assumption)
        obtain ⟨ad122, e122, hx122_0⟩ := Kd.at_int HR0.out x5_1 p122 q122
        cases e122
        replace p122 := eq_true p122
        replace q122 := eq_true q122
        have p123 : 0 ≤ (x5_1 : Int) := of_decide_eq_true (by first | (with_reducible assumption) | assumption)
        have q123 : x5_1 < (l1.length : Int) := of_decide_eq_true (by first | (with_reducible assumption) | assumption)
        obtain ⟨ad123, e123, hx123_0⟩ := Kd.at_int HR1.out x5_1 p123 q123
        cases e123
        replace p123 := eq_true p123
        replace q123 := eq_true q123
        go_wp2
        repeat (go_quiet (fail); try go_wp2)
        go_roundg k1
        case measure => have := HK1.out; omega
        case rel => exact ⟨(wrap64 (x5_1 + 1)), (by first | rfl | (simp; done) | (simp [*]; done) | (simp [wrap64]; done)), H', ⟨by have := HK1.out; omega⟩, by repeat (first | exact Drawn0.refl _ | apply Drawn0.step)⟩
       ·rw [if_neg c7] at H
        have c7b0 : ((rd l0 x5_1) == (rd l1 x5_1)) = false := beq_eq_false_iff_ne.mpr c7
        have c7b1 : ((rd l0 x5_1) != (rd l1 x5_1)) = true := bne_iff_ne.mpr c7
        obtain rfl := Option.some.inj H
        simp only [Option.some.injEq, Prod.mk.injEq] at H
        obtain ⟨rfl⟩ := H
        have p122 : 0 ≤ (x5_1 : Int) := of_decide_eq_true (by first | (with_reducible assumption) | assumption)
        have q122 : x5_1 < (l0.length : Int) := of_decide_eq_true (by first | (with_reducible assumption) | assumption)
        obtain ⟨ad122, e122, hx122_0⟩ := Kd.at_int HR0.out x5_1 p122 q122
        cases e122
        replace p122 := eq_true p122
        replace q122 := eq_true q122
        have p123 : 0 ≤ (x5_1 : Int) := of_decide_eq_true (by first | (with_reducible assumption) | assumption)
        have q123 : x5_1 < (l1.length : Int) := of_decide_eq_true (by first | (with_reducible assumption) | assumption)
        obtain ⟨ad123, e123, hx123_0⟩ := Kd.at_int HR1.out x5_1 p123 q123
        cases e123
        replace p123 := eq_true p123
        replace q123 := eq_true q123
        go_wp2
        repeat (go_quiet (fail); try go_wp2)
        go_ret
        exact ⟨by first | rfl | (simp; done) | (simp [*]; done) | (simp [wrap64]; done), by repeat (first | exact Drawn0.refl _ | apply Drawn0.step)⟩
      ·rw [if_neg c6] at H
       exact absurd H (by simp)
     ·rw [if_neg c5] at H
      exact absurd H (by simp)
    ·rw [if_neg c4] at H
     have c4b0 : decide (x5_1 < (l0.length : Int)) = false := decide_eq_false c4
     clear c4
     obtain rfl := Option.some.inj H
     simp only [Option.some.injEq, Prod.mk.injEq] at H
     obtain ⟨rfl⟩ := H
     go_wp2
     repeat (go_quiet (fail); try go_wp2)
     go_ret
     exact ⟨by first | rfl | (simp; done) | (simp [*]; done) | (simp [wrap64]; done), by repeat (first | exact Drawn0.refl _ | apply Drawn0.step)⟩
 ·rw [if_neg c3] at H
  have c3b0 : ((l0.length : Int) == (l1.length : Int)) = false := beq_eq_false_iff_ne.mpr c3
  have c3b1 : ((l0.length : Int) != (l1.length : Int)) = true := bne_iff_ne.mpr c3
  have c3b2 : (l0.length == l1.length) = false := by first | simpa using c3 | (simp at c3 ⊢; omega)
  obtain rfl := Option.some.inj H
  simp only [Option.some.injEq, Prod.mk.injEq] at H
  obtain ⟨rfl⟩ := H
  go_enter Tryd.func117, Tryd.ntmps117
  go_wp2
  repeat (go_quiet (fail); try go_wp2)
  go_ret
  exact ⟨by first | rfl | (simp; done) | (simp [*]; done) | (simp [wrap64]; done), by repeat (first | exact Drawn0.refl _ | apply Drawn0.step)⟩
end Go.Proofs.YtbamnonamdpooaaDoor.PT3
namespace Go.Proofs.YtbamnonamdpooaaDoor.PT3
open Go.RowKit Go.Proofs.YtbamnonamdpooaaDoorW.PrintWords Go.Proofs.YtbamnonamdpooaaDoorW.PrintLast Go.Proofs.YtbamnonamdpooaaDoorW.PrintMore Go.Proofs.YtbamnonamdpooaaDoor.PL1 Go.Proofs.YtbamnonamdpooaaDoor.Rw
attribute [local go_sem] max2_int min2_int max_two min_two max_three min_three max_four min_four   -- for this text's walks alone
set_option linter.unusedVariables false
set_option linter.unusedSimpArgs false
/-! ### laws_eqInt64SS: function 56 -/
def laws_eqInt64SS.l0 : Nat → List (List Int) → List (List Int) → Int → Option (Bool)
 | 0, _, _, _ => none
 | k + 1, x0, x1, x5 => if x5 < (x0.length : Int) then (if 0 ≤ x5 then (if x5 < (x1.length : Int) then ((laws_eqInt64S.f k (rd_L2 x0 x5) (rd_L2 x1 x5)).bind fun t126 => (if t126 = true then (laws_eqInt64SS.l0 k x0 x1 (wrap64 (x5 + 1))) else (some false))) else (none)) else (none)) else (some true)
def laws_eqInt64SS.f (k : Nat) (l0 : List (List Int)) (l1 : List (List Int)) : Option (Bool) := if (l0.length : Int) = (l1.length : Int) then (laws_eqInt64SS.l0 k l0 l1 0) else (some false)
theorem laws_eqInt64SS.mono_l : ∀ k, (∀ y0 y1 y2, LeO (laws_eqInt64SS.l0 k y0 y1 y2) (laws_eqInt64SS.l0 (k + 1) y0 y1 y2))
 | 0 => fun _ _ _ r h => by simp [laws_eqInt64SS.l0] at h
 | k + 1 => by
  have ih0 := laws_eqInt64SS.mono_l k
  ·intro y0 y1 y2
   unfold laws_eqInt64SS.l0
   repeat' first
   | (with_reducible exact ih0 _ _ _)
   | (with_reducible exact laws_eqInt64S.mono _ _ _)
   | (with_reducible exact LeO.refl _)
   | (with_reducible exact LeO.none _)
   | (with_reducible refine LeO.ite ?_ ?_)
   | (with_reducible refine LeO.bind ?_ (fun _ => ?_))
   | exact ih0 _ _ _
   | exact laws_eqInt64S.mono _ _ _
   | exact LeO.none _
   | refine LeO.ite ?_ ?_
   | refine LeO.bind ?_ (fun _ => ?_)
theorem laws_eqInt64SS.mono : ∀ a0 a1 k, LeO (laws_eqInt64SS.f k a0 a1) (laws_eqInt64SS.f (k + 1) a0 a1) := by
 intro a0 a1 k
 have ih0 := laws_eqInt64SS.mono_l k
 unfold laws_eqInt64SS.f
 repeat' first
   | (with_reducible exact ih0 _ _ _)
   | (with_reducible exact laws_eqInt64S.mono _ _ _)
   | (with_reducible exact LeO.refl _)
   | (with_reducible exact LeO.none _)
   | (with_reducible refine LeO.ite ?_ ?_)
   | (with_reducible refine LeO.bind ?_ (fun _ => ?_))
   | exact ih0 _ _ _
   | exact laws_eqInt64S.mono _ _ _
   | exact LeO.none _
   | refine LeO.ite ?_ ?_
   | refine LeO.bind ?_ (fun _ => ?_)
set_option maxHeartbeats 8000000 in
set_option maxRecDepth 100000 in
theorem laws_eqInt64SS.calls (k : Nat) (A0 : Option Addr) (c0 : Nat) (l0 : List (List Int)) (A1 : Option Addr) (c1 : Nat) (l1 : List (List Int)) (r : Bool) (w : World) (hr0 : Kd.C (Kd.slice 2 (Kd.int .i64)) w A0 l0.length l0) (hc0 : l0.length ≤ c0) (hr1 : Kd.C (Kd.slice 2 (Kd.int .i64)) w A1 l1.length l1) (hc1 : l1.length ≤ c1) (h : laws_eqInt64SS.f k l0 l1 = some r) :
  Calls Tryd.prog 56 #[.slice A0 l0.length c0, .slice A1 l1.length c1] w fun e w' => e = .returned (.bool r) ∧ Drawn0 w w' := by
 have HR0 := Aside0.mk hr0
 have HC0 := Aside0.mk hc0
 clear hr0 hc0
 have HR1 := Aside0.mk hr1
 have HC1 := Aside0.mk hc1
 clear hr1 hc1
 have H : (if (l0.length : Int) = (l1.length : Int) then (laws_eqInt64SS.l0 k l0 l1 0) else (some false)) = some r := h
 clear h
 by_cases c3 : (l0.length : Int) = (l1.length : Int)
 ·rw [if_pos c3] at H
  have c3b0 : ((l0.length : Int) == (l1.length : Int)) = true := beq_iff_eq.mpr c3
  have c3b1 : ((l0.length : Int) != (l1.length : Int)) = false := bne_eq_false_iff_eq.mpr c3
  have c3b2 : (l0.length == l1.length) = true := by first | simpa using c3 | (simp at c3 ⊢; omega)
  clear c3
  have H' := Aside0.mk H
  clear H
  go_enter Tryd.func56, Tryd.ntmps56
  go_wp2
  repeat (go_quiet (fail); try go_wp2)
  go_loopg [5] k (fun kq v5 w' => ∃ (x5_1 : Int), v5 = .int .i64 x5_1 ∧ Aside0 (laws_eqInt64SS.l0 kq l0 l1 x5_1 = some r) ∧ Aside0 (kq ≤ k) ∧ Drawn0 w w')
  case atStart => exact ⟨(0), (by first | rfl | (simp; done) | (simp [*]; done) | (simp [wrap64]; done)), H', ⟨Nat.le_refl _⟩, by repeat (first | exact Drawn0.refl _ | apply Drawn0.step)⟩
  case round =>
   clear H'
   try clear c1
   try clear p2
   try clear c3
   try clear c3b0
   try clear c3b1
   try clear c3b2
   obtain ⟨x5_1, rfl, HA, HK1, ⟨m1, rfl⟩⟩ := hrel
   cases gk with
   | zero => exact absurd HA.out (by simp [laws_eqInt64SS.l0])
   | succ k1 =>
    have H := HA.out
    clear HA
    simp only [laws_eqInt64SS.l0] at H
    by_cases c4 : x5_1 < (l0.length : Int)
    ·rw [if_pos c4] at H
     have c4b0 : decide (x5_1 < (l0.length : Int)) = true := decide_eq_true c4
     clear c4
     by_cases c5 : 0 ≤ x5_1
     ·rw [if_pos c5] at H
      have c5b0 : decide (0 ≤ x5_1) = true := decide_eq_true c5
      clear c5
      by_cases c6 : x5_1 < (l1.length : Int)
      ·rw [if_pos c6] at H
       have c6b0 : decide (x5_1 < (l1.length : Int)) = true := decide_eq_true c6
       clear c6
       replace H := Option.bind_eq_some_iff.mp H
       obtain ⟨t126, A70, H⟩ := H
       replace H : (if t126 = true then (laws_eqInt64SS.l0 k1 l0 l1 (wrap64 (x5_1 + 1))) else (some false)) = some r := H
       have A7 := Aside0.mk A70
       clear A70
       by_cases c8 : t126 = true
       ·subst c8
        have H1 : (laws_eqInt64SS.l0 k1 l0 l1 (wrap64 (x5_1 + 1))) = some r := by rw [if_pos rfl] at H; exact H
        clear H
        have H := H1
        clear H1
        have H' := Aside0.mk H
        clear H
        have p124 : 0 ≤ (x5_1 : Int) := of_decide_eq_true (by first | (with_reducible assumption) | assumption)
        have q124 : x5_1 < (l0.length : Int) := of_decide_eq_true (by first | (with_reducible assumption) | assumption)
        obtain ⟨ad124, A124_0, c124_0, e124, hx124_0, hl124_0, hi124_0⟩ := at_L2 HR0.out x5_1 p124 q124
        cases e124
        have HR124_0 := Aside0.mk hi124_0
        have HC124_0 := Aside0.mk hl124_0
        clear hi124_0 hl124_0
        replace p124 := eq_true p124
        replace q124 := eq_true q124
        have p125 : 0 ≤ (x5_1 : Int) := of_decide_eq_true (by first | (with_reducible assumption) | assumption)
        have q125 : x5_1 < (l1.length : Int) := of_decide_eq_true (by first | (with_reducible assumption) | assumption)
        obtain ⟨ad125, A125_0, c125_0, e125, hx125_0, hl125_0, hi125_0⟩ := at_L2 HR1.out x5_1 p125 q125
        cases e125
        have HR125_0 := Aside0.mk hi125_0
        have HC125_0 := Aside0.mk hl125_0
        clear hi125_0 hl125_0
        replace p125 := eq_true p125
        replace q125 := eq_true q125
        go_wp2_with (first | (go_at_call 117; (with_reducible refine (laws_eqInt64S.calls k1 _ _ (rd_L2 l0 x5_1) _ _ (rd_L2 l1 x5_1) true _ ?side1 ?side2 ?side3 ?side4 A7.out).mono ?_); (case side1 => repeat (first | exact HR124_0.out | (with_reducible refine Kd.C_alloc ?_ _) | (with_reducible refine Kd.C_drewN ?_ _) | (with_reducible refine Kd.C_drew ?_))); (case side2 => exact HC124_0.out); (case side3 => repeat (first | exact HR125_0.out | (with_reducible refine Kd.C_alloc ?_ _) | (with_reducible refine Kd.C_drewN ?_ _) | (with_reducible refine Kd.C_drew ?_))); (case side4 => exact HC125_0.out); rintro e w' ⟨rfl, ⟨nd, rfl⟩⟩; (try first | exact ⟨rfl, _, World.drewN_drewN _ _ _⟩ | exact ⟨rfl, _, Eq.trans (World.drewN_drewN _ _ _) (congrArg (World.drewN _) (Nat.add_assoc _ _ _))⟩)))
        repeat (go_quiet (first | (go_at_call 117; (with_reducible refine (laws_eqInt64S.calls k1 _ _ (rd_L2 l0 x5_1) _ _ (rd_L2 l1 x5_1) true _ ?side1 ?side2 ?side3 ?side4 A7.out).mono ?_); (case side1 => repeat (first | exact HR124_0.out | (with_reducible refine Kd.C_alloc ?_ _) | (with_reducible refine Kd.C_drewN ?_ _) | (with_reducible refine Kd.C_drew ?_))); (case side2 => exact HC124_0.out); (case side3 => repeat (first | exact HR125_0.out | (with_reducible refine Kd.C_alloc ?_ _) | (with_reducible refine Kd.C_drewN ?_ _) | (with_reducible refine Kd.C_drew ?_))); (case side4 => exact HC125_0.out); rintro e w' ⟨rfl, ⟨nd, rfl⟩⟩; (try first | exact ⟨rfl, _, World.drewN_drewN _ _ _⟩ | exact ⟨rfl, _, Eq.trans (World.drewN_drewN _ _ _) (congrArg (World.drewN _) (Nat.add_assoc _ _ _))⟩))); try go_wp2_with (first | (go_at_call 117; (with_reducible refine (laws_eqInt64S.calls k1 _ _ (rd_L2 l0 x5_1) _ _ (rd_L2 l1 x5_1) true _ ?side1 ?side2 ?side3 ?side4 A7.out).mono ?_); (case side1 => repeat (first | exact HR124_0.out | (with_reducible refine Kd.C_alloc ?_ _) | (with_reducible refine Kd.C_drewN ?_ _) | (with_reducible refine Kd.C_drew ?_))); (case side2 => exact HC124_0.out); (case side3 => repeat (first | exact HR125_0.out | (with_reducible refine Kd.C_alloc ?_ _) | (with_reducible refine Kd.C_drewN ?_ _) | (with_reducible refine Kd.C_drew ?_))); (case side4 => exact HC125_0.out); rintro e w' ⟨rfl, ⟨nd, rfl⟩⟩; (try first | exact ⟨rfl, _, World.drewN_drewN _ _ _⟩ | exact ⟨rfl, _, Eq.trans (World.drewN_drewN _ _ _) (congrArg (World.drewN _) (Nat.add_assoc _ _ _))⟩))))
        go_roundg k1
        case measure => have := HK1.out; omega
        case rel => exact ⟨(wrap64 (x5_1 + 1)), (by first | rfl | (simp; done) | (simp [*]; done) | (simp [wrap64]; done)), H', ⟨by have := HK1.out; omega⟩, by repeat (first | exact Drawn0.refl _ | apply Drawn0.step)⟩
       ·replace c8 := Bool.eq_false_iff.mpr c8
        subst c8
        have H1 : (some false) = some r := by rw [if_neg (show ¬ (false = true) by decide)] at H; exact H
        clear H
        have H := H1
        clear H1
        obtain rfl := Option.some.inj H
        simp only [Option.some.injEq, Prod.mk.injEq] at H
        obtain ⟨rfl⟩ := H
        have p124 : 0 ≤ (x5_1 : Int) := of_decide_eq_true (by first | (with_reducible assumption) | assumption)
        have q124 : x5_1 < (l0.length : Int) := of_decide_eq_true (by first | (with_reducible assumption) | assumption)
        obtain ⟨ad124, A124_0, c124_0, e124, hx124_0, hl124_0, hi124_0⟩ := at_L2 HR0.out x5_1 p124 q124
        cases e124
        have HR124_0 := Aside0.mk hi124_0
        have HC124_0 := Aside0.mk hl124_0
        clear hi124_0 hl124_0
        replace p124 := eq_true p124
        replace q124 := eq_true q124
        have p125 : 0 ≤ (x5_1 : Int) := of_decide_eq_true (by first | (with_reducible assumption) | assumption)
        have q125 : x5_1 < (l1.length : Int) := of_decide_eq_true (by first | (with_reducible assumption) | assumption)
        obtain ⟨ad125, A125_0, c125_0, e125, hx125_0, hl125_0, hi125_0⟩ := at_L2 HR1.out x5_1 p125 q125
        cases e125
        have HR125_0 := Aside0.mk hi125_0
        have HC125_0 := Aside0.mk hl125_0
        clear hi125_0 hl125_0
        replace p125 := eq_true p125
        replace q125 := eq_true q125
        go_wp2_with (first | (go_at_call 117; (with_reducible refine (laws_eqInt64S.calls k1 _ _ (rd_L2 l0 x5_1) _ _ (rd_L2 l1 x5_1) false _ ?side1 ?side2 ?side3 ?side4 A7.out).mono ?_); (case side1 => repeat (first | exact HR124_0.out | (with_reducible refine Kd.C_alloc ?_ _) | (with_reducible refine Kd.C_drewN ?_ _) | (with_reducible refine Kd.C_drew ?_))); (case side2 => exact HC124_0.out); (case side3 => repeat (first | exact HR125_0.out | (with_reducible refine Kd.C_alloc ?_ _) | (with_reducible refine Kd.C_drewN ?_ _) | (with_reducible refine Kd.C_drew ?_))); (case side4 => exact HC125_0.out); rintro e w' ⟨rfl, ⟨nd, rfl⟩⟩; (try first | exact ⟨rfl, _, World.drewN_drewN _ _ _⟩ | exact ⟨rfl, _, Eq.trans (World.drewN_drewN _ _ _) (congrArg (World.drewN _) (Nat.add_assoc _ _ _))⟩)))
        repeat (go_quiet (first | (go_at_call 117; (with_reducible refine (laws_eqInt64S.calls k1 _ _ (rd_L2 l0 x5_1) _ _ (rd_L2 l1 x5_1) false _ ?side1 ?side2 ?side3 ?side4 A7.out).mono ?_); (case side1 => repeat (first | exact HR124_0.out | (with_reducible refine Kd.C_alloc ?_ _) | (with_reducible refine Kd.C_drewN ?_ _) | (with_reducible refine Kd.C_drew ?_))); (case side2 => exact HC124_0.out); (case side3 => repeat (first | exact HR125_0.out | (with_reducible refine Kd.C_alloc ?_ _) | (with_reducible refine Kd.C_drewN ?_ _) | (with_reducible refine Kd.C_drew ?_))); (case side4 => exact HC125_0.out); rintro e w' ⟨rfl, ⟨nd, rfl⟩⟩; (try first | exact ⟨rfl, _, World.drewN_drewN _ _ _⟩ | exact ⟨rfl, _, Eq.trans (World.drewN_drewN _ _ _) (congrArg (World.drewN _) (Nat.add_assoc _ _ _))⟩))); try go_wp2_with (first | (go_at_call 117; (with_reducible refine (laws_eqInt64S.calls k1 _ _ (rd_L2 l0 x5_1) _ _ (rd_L2 l1 x5_1) false _ ?side1 ?side2 ?side3 ?side4 A7.out).mono ?_); (case side1 => repeat (first | exact HR124_0.out | (with_reducible refine Kd.C_alloc ?_ _) | (with_reducible refine Kd.C_drewN ?_ _) | (with_reducible refine Kd.C_drew ?_))); (case side2 => exact HC124_0.out); (case side3 => repeat (first | exact HR125_0.out | (with_reducible refine Kd.C_alloc ?_ _) | (with_reducible refine Kd.C_drewN ?_ _) | (with_reducible refine Kd.C_drew ?_))); (case side4 => exact HC125_0.out); rintro e w' ⟨rfl, ⟨nd, rfl⟩⟩; (try first | exact ⟨rfl, _, World.drewN_drewN _ _ _⟩ | exact ⟨rfl, _, Eq.trans (World.drewN_drewN _ _ _) (congrArg (World.drewN _) (Nat.add_assoc _ _ _))⟩))))
        go_ret
        exact ⟨by first | rfl | (simp; done) | (simp [*]; done) | (simp [wrap64]; done), by repeat (first | exact Drawn0.refl _ | apply Drawn0.step)⟩
      ·rw [if_neg c6] at H
       exact absurd H (by simp)
     ·rw [if_neg c5] at H
      exact absurd H (by simp)
    ·rw [if_neg c4] at H
     have c4b0 : decide (x5_1 < (l0.length : Int)) = false := decide_eq_false c4
     clear c4
     obtain rfl := Option.some.inj H
     simp only [Option.some.injEq, Prod.mk.injEq] at H
     obtain ⟨rfl⟩ := H
     go_wp2
     repeat (go_quiet (fail); try go_wp2)
     go_ret
     exact ⟨by first | rfl | (simp; done) | (simp [*]; done) | (simp [wrap64]; done), by repeat (first | exact Drawn0.refl _ | apply Drawn0.step)⟩
 ·rw [if_neg c3] at H
  have c3b0 : ((l0.length : Int) == (l1.length : Int)) = false := beq_eq_false_iff_ne.mpr c3
  have c3b1 : ((l0.length : Int) != (l1.length : Int)) = true := bne_iff_ne.mpr c3
  have c3b2 : (l0.length == l1.length) = false := by first | simpa using c3 | (simp at c3 ⊢; omega)
  obtain rfl := Option.some.inj H
  simp only [Option.some.injEq, Prod.mk.injEq] at H
  obtain ⟨rfl⟩ := H
  go_enter Tryd.func56, Tryd.ntmps56
  go_wp2
  repeat (go_quiet (fail); try go_wp2)
  go_ret
  exact ⟨by first | rfl | (simp; done) | (simp [*]; done) | (simp [wrap64]; done), by repeat (first | exact Drawn0.refl _ | apply Drawn0.step)⟩
end Go.Proofs.YtbamnonamdpooaaDoor.PT3
namespace Go.Proofs.YtbamnonamdpooaaDoor.PT3
open Go.RowKit Go.Proofs.YtbamnonamdpooaaDoorW.PrintWords Go.Proofs.YtbamnonamdpooaaDoorW.PrintLast Go.Proofs.YtbamnonamdpooaaDoorW.PrintMore Go.Proofs.YtbamnonamdpooaaDoor.PL1 Go.Proofs.YtbamnonamdpooaaDoor.Rw
attribute [local go_sem] max2_int min2_int max_two min_two max_three min_three max_four min_four   -- for this text's walks alone
set_option linter.unusedVariables false
set_option linter.unusedSimpArgs false
end Go.Proofs.YtbamnonamdpooaaDoor.PT3
namespace Go.Proofs.YtbamnonamdpooaaDoor.PureRel
set_option linter.unusedVariables false
set_option linter.unusedSimpArgs false
open Go.RowKit Go.Proofs.YtbamnonamdpooaaDoorW.PrintWords Go.Proofs.YtbamnonamdpooaaDoorW.PrintLast Go.Proofs.YtbamnonamdpooaaDoorW.PrintMore Go.Proofs.YtbamnonamdpooaaDoor.PL1 Go.Proofs.YtbamnonamdpooaaDoor.Rw Go.Proofs.YtbamnonamdpooaaDoor.PT3 Go.Proofs.YtbamnonamdpooaaDoor.Pure
/-! ### copies -/
theorem toBool_ev (xs : List Bool) (h : xs.length ≤ 281474976710656) : Ev (fun k => laws_toBoolS.f k xs) xs := by
 have key := ev_copy (fun k ys i => laws_toBoolS.l0 k xs ys i) xs false
  (fun ys hy => ev_const (fun k => by simp [laws_toBoolS.l0]))
  (fun i hi ys r hy H => ev_step (fun k => by
   simp only [laws_toBoolS.l0]
   rw [if_pos (by omega), if_pos (by omega), if_pos (by omega), rdOf_nat false xs i hi, wrap_up (by omega), Int.toNat_natCast]) H)
 exact Ev.congr (fun k => by unfold laws_toBoolS.f; rw [if_pos (by omega), if_pos (by simpa using h)]; simp) key
theorem row_nat (xs : List (List Int)) (i : Nat) (h : i < xs.length) : Go.Proofs.YtbamnonamdpooaaDoor.PT3.rd_L2 xs (i : Int) = xs[i] := getD_nat _ _ _ h
theorem toRows_is (xs : List (List Int)) (h : xs.length ≤ 1048576) (hs : ∀ r ∈ xs, r.length ≤ 1048576) : laws_toInt64SS.f xs = some xs := by
 unfold laws_toInt64SS.f
 rw [if_pos ⟨h, hs⟩]
theorem toRel_ev (s t : Int) (a : List Bool) (b : List (List Int)) (ha : a.length ≤ 1048576) (hb : b.length ≤ 1048576) (hs : ∀ r ∈ b, r.length ≤ 1048576) : Ev (fun k => laws_toRelation.f k s t a b) (s, t, a, b) :=
 ev_call (toBool_ev a (by omega)) (f := fun k x => (laws_toInt64SS.f b).bind fun y => some (s, t, x, y)) (ev_some (toRows_is b hb hs) (f := fun k y => some (s, t, a, y)) (Ev.now _) (fun _ => rfl)) (fun _ => rfl)
/-! ### equal -/
theorem eqBool_ev (a : List Bool) (h : a.length ≤ 1048576) : Ev (fun k => laws_eqBoolS.f k a a) true := by
 have key := ev_up (fun k i (_ : Unit) => laws_eqBoolS.l0 k a a i) a.length (fun _ => ()) true (ev_const (fun k => by simp [laws_eqBoolS.l0]))
  (fun i hi H => ev_step (fun k => by
   simp only [laws_eqBoolS.l0]
   rw [if_pos (by omega), if_pos (by omega), if_pos (by omega), if_neg (by simp), wrap_up (by omega)]) H)
 exact Ev.congr (fun k => by simp [laws_eqBoolS.f]) key
theorem eqLongs_ev (a : List Int) (h : a.length ≤ 1048576) : Ev (fun k => laws_eqInt64S.f k a a) true := by
 have key := ev_up (fun k i (_ : Unit) => laws_eqInt64S.l0 k a a i) a.length (fun _ => ()) true (ev_const (fun k => by simp [laws_eqInt64S.l0]))
  (fun i hi H => ev_step (fun k => by
   simp only [laws_eqInt64S.l0]
   rw [if_pos (by omega), if_pos (by omega), if_pos (by omega), if_pos trivial, wrap_up (by omega)]) H)
 exact Ev.congr (fun k => by simp [laws_eqInt64S.f]) key
theorem eqRows_ev (a : List (List Int)) (h : a.length ≤ 1048576) (hs : ∀ r ∈ a, r.length ≤ 1048576) : Ev (fun k => laws_eqInt64SS.f k a a) true := by
 have key := ev_up (fun k i (_ : Unit) => laws_eqInt64SS.l0 k a a i) a.length (fun _ => ()) true (ev_const (fun k => by simp [laws_eqInt64SS.l0]))
  (fun i hi H => by
   refine ev_step (f := fun k => (laws_eqInt64S.f k a[i] a[i]).bind fun t => if t = true then laws_eqInt64SS.l0 k a a ((i : Int) + 1) else some false) (fun k => ?_) (Ev.bind (eqLongs_ev a[i] (hs _ (List.getElem_mem hi))) (ev_ift rfl H))
   simp only [laws_eqInt64SS.l0]
   rw [if_pos (by omega), if_pos (by omega), if_pos (by omega), row_nat a i hi, wrap_up (by omega)])
 exact Ev.congr (fun k => by simp [laws_eqInt64SS.f]) key
/-! ### sizes -/
theorem szLongs_is (x : List Int) (m : Int) (h0 : 0 ≤ m) (hm : m ≤ 1048576) (hx : x.length ≤ 9223372036854775807) : ∃ v, laws_szInt64S.f x m = some v ∧ v ≤ m ∧ (0 ≤ v → x.length ≤ 1048576) := by
 have w1 : wrap64 (m - x.length) = m - x.length := wrap_id (by omega) (by omega)
 unfold laws_szInt64S.f
 rw [w1]
 by_cases q : m - (x.length : Int) < 0
 ·rw [if_pos q]; exact ⟨-1, rfl, by omega, by omega⟩
 ·rw [if_neg q]; exact ⟨_, rfl, by omega, by omega⟩
theorem szRows_ev (c : List (List Int)) (n : Int) (h0 : 0 ≤ n) (hn : n ≤ 1048576) (hl : c.length ≤ 9223372036854775807) (hs : ∀ x ∈ c, x.length ≤ 9223372036854775807) :
  ∃ r, Ev (fun k => laws_szInt64SS.f k c n) r ∧ r ≤ n ∧ (0 ≤ r → c.length ≤ 1048576 ∧ ∀ x ∈ c, x.length ≤ 1048576) := by
 have hw : wrap64 (n - c.length) = n - c.length := wrap_id (by omega) (by omega)
 by_cases hlt : n - c.length < 0
 ·exact ⟨-1, Ev.congr (fun k => by unfold laws_szInt64SS.f; rw [hw, if_pos hlt]) (Ev.now _), by omega, by omega⟩
 ·have key : ∀ d i (m : Int), d + i = c.length → 0 ≤ m → m ≤ n - c.length → ∃ r, Ev (fun k => laws_szInt64SS.l0 k c m (i : Int)) r ∧ r ≤ n ∧ (0 ≤ r → ∀ j, i ≤ j → (h : j < c.length) → c[j].length ≤ 1048576) := by
   intro d
   induction d with
   | zero => intro i m hi h0 hm; exact ⟨m, ev_const (fun k => by simp only [laws_szInt64SS.l0]; rw [if_neg (by omega)]), by omega, fun _ j h1 h2 => by omega⟩
   | succ d ih =>
    intro i m hi h0 hm
    have hi' : i < c.length := by omega
    obtain ⟨v, hv, hvm, hvl⟩ := szLongs_is c[i] m h0 (by omega) (hs _ (List.getElem_mem hi'))
    by_cases q : v < 0
    ·exact ⟨-1, ev_const (fun k => by
      simp only [laws_szInt64SS.l0]
      rw [if_pos (by omega), if_pos (by omega), row_nat c i hi', hv, Option.bind_some, if_pos q]), by omega, by omega⟩
    ·obtain ⟨r, hr, hrn, hrl⟩ := ih (i + 1) v (by omega) (by omega) (by omega)
     refine ⟨r, ev_step (fun k => ?_) hr, hrn, fun h j h1 h2 => ?_⟩
     ·simp only [laws_szInt64SS.l0]
      rw [if_pos (by omega), if_pos (by omega), row_nat c i hi', hv, Option.bind_some, if_neg q, wrap_up (by omega)]
      simp
     ·by_cases e : j = i
      ·subst e; exact hvl (by omega)
      ·exact hrl h j (by omega) h2
  obtain ⟨r, hr, hrn, hrl⟩ := key c.length 0 _ (by omega) (by omega) (Int.le_refl _)
  refine ⟨r, Ev.congr (fun k => ?_) hr, hrn, fun h => ⟨by omega, fun x hx => ?_⟩⟩
  ·unfold laws_szInt64SS.f
   rw [hw, if_neg hlt]
   rfl
  ·obtain ⟨j, hj, rfl⟩ := List.mem_iff_getElem.1 hx
   exact hrl h j (by omega) hj
theorem szRel_ev (s t : Int) (a : List Bool) (c : List (List Int)) (n : Int) (h0 : 0 ≤ n) (hn : n ≤ 1048576) (ha : a.length ≤ 9223372036854775807) (hl : c.length ≤ 9223372036854775807) (hs : ∀ x ∈ c, x.length ≤ 9223372036854775807) :
  ∃ r, Ev (fun k => laws_szRelation.f k s t a c n) r ∧ (0 ≤ r → a.length ≤ 1048576 ∧ c.length ≤ 1048576 ∧ ∀ x ∈ c, x.length ≤ 1048576) := by
 have w1 : wrap64 (n - a.length) = n - a.length := wrap_id (by omega) (by omega)
 unfold laws_szRelation.f laws_szBoolS.f
 rw [w1]
 by_cases q : n - (a.length : Int) < 0
 ·exact ⟨-1, Ev.congr (fun k => by rw [if_pos q, Option.bind_some, if_pos (by decide)]) (Ev.now _), by omega⟩
 ·obtain ⟨r, hr, hrn, hrl⟩ := szRows_ev c (n - a.length) (by omega) (by omega) hl hs
  by_cases q2 : r < 0
  ·refine ⟨-1, Ev.congr (f := fun k => (laws_szInt64SS.f k c (n - a.length)).bind fun t => if t < 0 then some (-1) else some t) (fun k => by rw [if_neg q, Option.bind_some, if_neg q]) ?_, by omega⟩
   exact Ev.bind hr (ev_ift q2 (Ev.now _))
  ·refine ⟨r, Ev.congr (f := fun k => (laws_szInt64SS.f k c (n - a.length)).bind fun t => if t < 0 then some (-1) else some t) (fun k => by rw [if_neg q, Option.bind_some, if_neg q]) ?_, fun h => ⟨by omega, hrl h⟩⟩
   exact Ev.bind hr (ev_iff q2 (Ev.now _))
end Go.Proofs.YtbamnonamdpooaaDoor.PureRel
namespace Go.Proofs.YtbamnonamdpooaaDoor.Lr
set_option linter.unusedVariables false
set_option linter.unusedSimpArgs false
open Go.RowKit Go.Proofs.YtbamnonamdpooaaDoorW.PrintWords Go.Proofs.YtbamnonamdpooaaDoorW.PrintLast Go.Proofs.YtbamnonamdpooaaDoorW.PrintMore Go.Proofs.YtbamnonamdpooaaDoor.Kp Go.Proofs.YtbamnonamdpooaaDoor.PT3 Go.Proofs.YtbamnonamdpooaaDoor.Pure Go.Proofs.YtbamnonamdpooaaDoor.PureRel Go.Proofs.YtbamnonamdpooaaDoor.Rw
/-- What a relation's cells hold, as arguments. -/
structure Arg (w : World) (A2 : Option Addr) (c2 : Nat) (a : List Bool) (A3 : Option Addr) (c3 : Nat) (b : List (List Int)) : Prop where
 r2 : Kd.C Kd.bool w A2 a.length a
 l2 : a.length ≤ c2
 r3 : Kd.C (Kd.slice 2 (Kd.int .i64)) w A3 b.length b
 l3 : b.length ≤ c3
/-- Sizes that a law lets in. -/
structure Small (a : List Bool) (b : List (List Int)) : Prop where
 la : a.length ≤ 1048576
 lb : b.length ≤ 1048576
 lr : ∀ r ∈ b, r.length ≤ 1048576
section
variable {w w' : World} {A2 : Option Addr} {c2 : Nat} {a : List Bool} {A3 : Option Addr} {c3 : Nat} {b : List (List Int)}
theorem Arg.below (h : Arg w A2 c2 a A3 c3 b) (hb : Below w.heap.size w w') : Arg w' A2 c2 a A3 c3 b := ⟨Kd.C_below h.r2 hb, h.l2, Kd.C_below h.r3 hb, h.l3⟩
end
/-- The reference's test of a relation. -/
theorem ok_spec (gp : Nat) (t s : Int) (A2 : Option Addr) (c2 : Nat) (a : List Bool) (A3 : Option Addr) (c3 : Nat) (b : List (List Int)) (w : World) (hP : w.heap[gp]? = some (.cells #[.int .i64 t, .int .i64 s, .slice A2 a.length c2, .slice A3 b.length c3] 29 (0, 0))) (hA : Arg w A2 c2 a A3 c3 b) (hS : Small a b) :
  Calls Tryd.prog 87 #[.pointer (some ⟨gp, 0, none⟩)] w fun e w' => e = .returned (.bool (okR t s a b)) ∧ Below w.heap.size w w' := by
 have hgp := blk_lt hP
 have m0 : w.cell? ⟨gp, 0, none⟩ = some (.int .i64 t) := (blk_cell hP 0).trans rfl
 have m1 : w.cell? ⟨gp, 1, none⟩ = some (.int .i64 s) := (blk_cell hP 1).trans rfl
 have m2 : w.cell? ⟨gp, 2, none⟩ = some (.slice A2 a.length c2) := (blk_cell hP 2).trans rfl
 have m3 : w.cell? ⟨gp, 3, none⟩ = some (.slice A3 b.length c3) := (blk_cell hP 3).trans rfl
 by_cases h : a.length ≤ 150
 ·have h1 : ((a.length : Int) ≤ 150) = True := eq_true (by omega)
  have hr : okR t s a b = okF t s a b := by unfold okR; rw [decide_eq_true h, Bool.true_and]
  rw [hr]
  clear hr
  go_enter Tryd.func87, Tryd.ntmps87
  go_wp2_with (go_at_call 144; go_loud (
   with_reducible refine (form gp t s A2 c2 a A3 c3 b _ hP hA.r3 hA.l3 hS.la hS.lb hS.lr).mono ?_
   rintro e w1 ⟨rfl, hb1⟩))
  go_ret
  exact ⟨rfl, hb1⟩
 ·have h1 : ((a.length : Int) ≤ 150) = False := eq_false (by omega)
  have hr : okR t s a b = false := by unfold okR; rw [decide_eq_false h, Bool.false_and]
  rw [hr]
  go_enter Tryd.func87, Tryd.ntmps87
  go_wp2_with fail
  go_ret
  exact ⟨rfl, Below.refl _ _⟩
/-- The code of a relation that should have two tapes. -/
def twoC (t s : Int) (a : List Bool) (b : List (List Int)) : Int := if okR t s a b = true then (if t = 2 then 0 else 2) else 1
theorem two_spec (gp : Nat) (t s : Int) (A2 : Option Addr) (c2 : Nat) (a : List Bool) (A3 : Option Addr) (c3 : Nat) (b : List (List Int)) (w : World) (hP : w.heap[gp]? = some (.cells #[.int .i64 t, .int .i64 s, .slice A2 a.length c2, .slice A3 b.length c3] 29 (0, 0))) (hA : Arg w A2 c2 a A3 c3 b) (hS : Small a b) :
  Calls Tryd.prog 47 #[.pointer (some ⟨gp, 0, none⟩)] w fun e w' => e = .returned (.int .i64 (twoC t s a b)) ∧ Below w.heap.size w w' := by
 have hgp := blk_lt hP
 have hc := Aside0.mk (ok_spec gp t s A2 c2 a A3 c3 b w hP hA hS)
 have m0 : w.cell? ⟨gp, 0, none⟩ = some (.int .i64 t) := (blk_cell hP 0).trans rfl
 have m1 : w.cell? ⟨gp, 1, none⟩ = some (.int .i64 s) := (blk_cell hP 1).trans rfl
 have m2 : w.cell? ⟨gp, 2, none⟩ = some (.slice A2 a.length c2) := (blk_cell hP 2).trans rfl
 have m3 : w.cell? ⟨gp, 3, none⟩ = some (.slice A3 b.length c3) := (blk_cell hP 3).trans rfl
 unfold twoC
 cases ho : okR t s a b with
 | false =>
  rw [if_neg (by simp)]
  rw [ho] at hc
  clear ho
  go_enter Tryd.func47, Tryd.ntmps47
  go_wp2_with (go_at_call 87; go_loud (
   with_reducible refine hc.out.mono ?_
   rintro e w1 ⟨rfl, hb1⟩))
  go_ret
  exact ⟨rfl, hb1⟩
 | true =>
  rw [if_pos rfl]
  rw [ho] at hc
  clear ho
  by_cases h : t = 2
  ·subst h
   rw [if_pos rfl]
   go_enter Tryd.func47, Tryd.ntmps47
   go_wp2_with (go_at_call 87; go_loud (
    with_reducible refine hc.out.mono ?_
    rintro e w1 ⟨rfl, hb1⟩
    have k0 := at_cell hb1 m0))
   go_ret
   exact ⟨rfl, hb1⟩
  ·rw [if_neg h]
   have h1 : (t = 2) = False := eq_false h
   have h2 : (t == 2) = false := beq_eq_false_iff_ne.mpr h
   have h3 : (t != 2) = true := bne_iff_ne.mpr h
   clear h
   go_enter Tryd.func47, Tryd.ntmps47
   go_wp2_with (go_at_call 87; go_loud (
    with_reducible refine hc.out.mono ?_
    rintro e w1 ⟨rfl, hb1⟩
    have k0 := at_cell hb1 m0))
   go_ret
   exact ⟨rfl, hb1⟩
set_option maxHeartbeats 2000000 in
/-- The program's code of one relation that should have two tapes. -/
theorem pairs_one (g : Nat) (t s : Int) (A2 : Option Addr) (c2 : Nat) (a : List Bool) (A3 : Option Addr) (c3 : Nat) (b : List (List Int)) (w : World) (hP : w.heap[g]? = some (.cells #[.int .i64 t, .int .i64 s, .slice A2 a.length c2, .slice A3 b.length c3] 29 (0, 0))) (hA : Arg w A2 c2 a A3 c3 b) (hS : Small a b) :
  Calls Tryd.prog 52 #[.slice (some ⟨g, 0, none⟩) 1 1] w fun e w' => e = .returned (.int .i64 (twoC t s a b)) ∧ Below w.heap.size w w' := by
 have hgp := blk_lt hP
 have m0 : w.cell? ⟨g, 0, none⟩ = some (.int .i64 t) := (blk_cell hP 0).trans rfl
 have m1 : w.cell? ⟨g, 1, none⟩ = some (.int .i64 s) := (blk_cell hP 1).trans rfl
 have m2 : w.cell? ⟨g, 2, none⟩ = some (.slice A2 a.length c2) := (blk_cell hP 2).trans rfl
 have m3 : w.cell? ⟨g, 3, none⟩ = some (.slice A3 b.length c3) := (blk_cell hP 3).trans rfl
 have hv : Aside0 (∀ W, Below w.heap.size w W → Calls Tryd.prog 90 #[.agg #[.int .i64 t, .int .i64 s, .slice A2 a.length c2, .slice A3 b.length c3]] W fun e w' => e = .returned (.bool (okR t s a b)) ∧ Below W.heap.size W w') := ⟨fun W hb => valid t s A2 c2 a A3 c3 b W (hA.below hb).r3 hA.l3 hS.la hS.lb hS.lr⟩
 unfold twoC
 cases ho' : okR t s a b with
 | false =>
  have ho := Aside0.mk ho'
  clear ho'
  rw [if_neg (by simp)]
  go_enter Tryd.func52, Tryd.ntmps52
  go_wp2_with fail
  go_loopg [9] 1 (fun kq v9 W => v9 = .int .i64 0 ∧ W = w)
  case atStart => exact ⟨rfl, rfl⟩
  case round =>
   obtain ⟨rfl, rfl⟩ := hrel
   go_wp2_with (go_at_call 90; go_loud (
    with_reducible refine (hv.out _ (by repeat (first | exact Below.refl _ _ | apply below_alloc | (refine Below.setCell ?_ (by simp) _)))).mono ?_
    rintro e w1 ⟨he, hb1⟩
    rw [ho.out] at he
    subst he
    have hB1 : Below wr.heap.size wr w1 := below_step (by repeat (first | exact Below.refl _ _ | apply below_alloc | (refine Below.setCell ?_ (by simp) _))) hb1))
   go_ret
   exact ⟨rfl, hB1⟩
 | true =>
  have ho := Aside0.mk ho'
  clear ho'
  rw [if_pos rfl]
  have hw1 : wrap64 (0 + 1) = 1 := by unfold wrap64; decide
  by_cases h : t = 2
  ·rw [if_pos h]
   have h1 : (t = 2) = True := eq_true h
   have h2 : (t == 2) = true := by simp [h]
   have h3 : (t != 2) = false := by simp [h]
   clear h
   go_enter Tryd.func52, Tryd.ntmps52
   go_wp2_with fail
   go_loopg [9] 2 (fun kq v9 W => (v9 = .int .i64 0 ∧ Aside0 (kq = 2) ∧ W = w) ∨ (v9 = .int .i64 1 ∧ Aside0 (kq = 1) ∧ Aside0 (Below w.heap.size w W)))
   case atStart => exact .inl ⟨rfl, ⟨rfl⟩, rfl⟩
   case round =>
    rcases hrel with ⟨rfl, hk, rfl⟩ | ⟨rfl, hk, hb0⟩
    ·go_wp2_with (go_at_call 90; go_loud (
      with_reducible refine (hv.out _ (by repeat (first | exact Below.refl _ _ | apply below_alloc | (refine Below.setCell ?_ (by simp) _)))).mono ?_
      rintro e w1 ⟨he, hb1⟩
      rw [ho.out] at he
      subst he
      have hB1 : Below wr.heap.size wr w1 := below_step (by repeat (first | exact Below.refl _ _ | apply below_alloc | (refine Below.setCell ?_ (by simp) _))) hb1))
     go_roundg 1
     case measure => have := hk.out; omega
     case rel => exact .inr ⟨(by first | rfl | go_num), ⟨rfl⟩, ⟨hB1⟩⟩
    ·have m0 := at_cell hb0.out m0
     have m1 := at_cell hb0.out m1
     have m2 := at_cell hb0.out m2
     have m3 := at_cell hb0.out m3
     go_wp2_with fail
     go_loopg [19] 2 (fun kq v19 W => (v19 = .int .i64 0 ∧ Aside0 (kq = 2) ∧ W = wr) ∨ (v19 = .int .i64 1 ∧ Aside0 (kq = 1) ∧ Aside0 (Below w.heap.size w W)))
     case atStart => exact .inl ⟨rfl, ⟨rfl⟩, rfl⟩
     case round =>
      rcases hrel with ⟨rfl, hk, rfl⟩ | ⟨rfl, hk, hb1⟩
      ·go_wp2_with fail
       go_roundg 1
       case measure => have := hk.out; omega
       case rel => exact .inr ⟨(by first | rfl | go_num), ⟨rfl⟩, ⟨by repeat (first | exact hb0.out | apply below_alloc | (refine Below.setCell ?_ (by have := Below.size hb0.out; simp <;> omega) _))⟩⟩
      ·go_wp2_with fail
       go_ret
       exact ⟨rfl, hb1.out⟩
  ·rw [if_neg h]
   have h1 : (t = 2) = False := eq_false h
   have h2 : (t == 2) = false := beq_eq_false_iff_ne.mpr h
   have h3 : (t != 2) = true := bne_iff_ne.mpr h
   clear h
   go_enter Tryd.func52, Tryd.ntmps52
   go_wp2_with fail
   go_loopg [9] 2 (fun kq v9 W => (v9 = .int .i64 0 ∧ Aside0 (kq = 2) ∧ W = w) ∨ (v9 = .int .i64 1 ∧ Aside0 (kq = 1) ∧ Aside0 (Below w.heap.size w W)))
   case atStart => exact .inl ⟨rfl, ⟨rfl⟩, rfl⟩
   case round =>
    rcases hrel with ⟨rfl, hk, rfl⟩ | ⟨rfl, hk, hb0⟩
    ·go_wp2_with (go_at_call 90; go_loud (
      with_reducible refine (hv.out _ (by repeat (first | exact Below.refl _ _ | apply below_alloc | (refine Below.setCell ?_ (by simp) _)))).mono ?_
      rintro e w1 ⟨he, hb1⟩
      rw [ho.out] at he
      subst he
      have hB1 : Below wr.heap.size wr w1 := below_step (by repeat (first | exact Below.refl _ _ | apply below_alloc | (refine Below.setCell ?_ (by simp) _))) hb1))
     go_roundg 1
     case measure => have := hk.out; omega
     case rel => exact .inr ⟨(by first | rfl | go_num), ⟨rfl⟩, ⟨hB1⟩⟩
    ·have m0 := at_cell hb0.out m0
     have m1 := at_cell hb0.out m1
     have m2 := at_cell hb0.out m2
     have m3 := at_cell hb0.out m3
     go_wp2_with fail
     go_loopg [19] 2 (fun kq v19 W => v19 = .int .i64 0 ∧ W = wr)
     case atStart => exact ⟨rfl, rfl⟩
     case round =>
      obtain ⟨rfl, rfl⟩ := hrel
      go_wp2_with fail
      go_ret
      exact ⟨rfl, by repeat (first | exact hb0.out | apply below_alloc | (refine Below.setCell ?_ (by have := Below.size hb0.out; simp <;> omega) _))⟩
/-- Two relations that hold the same are told equal. -/
theorem eq_same (t s : Int) (A2 : Option Addr) (c2 : Nat) (a : List Bool) (A3 : Option Addr) (c3 : Nat) (b : List (List Int)) (B2 : Option Addr) (d2 : Nat) (B3 : Option Addr) (d3 : Nat) (w : World) (hA : Arg w A2 c2 a A3 c3 b) (hB : Arg w B2 d2 a B3 d3 b) (hS : Small a b) :
  Calls Tryd.prog 16 #[.agg #[.int .i64 t, .int .i64 s, .slice A2 a.length c2, .slice A3 b.length c3], .agg #[.int .i64 t, .int .i64 s, .slice B2 a.length d2, .slice B3 b.length d3]] w fun e w' => e = .returned (.bool true) ∧ Below w.heap.size w w' := by
 obtain ⟨k1, hk1⟩ := (eqBool_ev a hS.la).rounds
 obtain ⟨k2, hk2⟩ := (eqRows_ev b hS.lb hS.lr).rounds
 have hk1 := Aside0.mk hk1
 have hk2 := Aside0.mk hk2
 have hb0 : Below w.heap.size w ((w.alloc (.cells #[.int .i64 t, .int .i64 s, .slice A2 a.length c2, .slice A3 b.length c3] 29)).alloc (.cells #[.int .i64 t, .int .i64 s, .slice B2 a.length d2, .slice B3 b.length d3] 29)) := below_alloc (below_alloc (Below.refl _ _) _) _
 have p3 : ((w.alloc (.cells #[.int .i64 t, .int .i64 s, .slice A2 a.length c2, .slice A3 b.length c3] 29)).alloc (.cells #[.int .i64 t, .int .i64 s, .slice B2 a.length d2, .slice B3 b.length d3] 29)).cell? ⟨w.heap.size, 3, none⟩ = some (.slice A3 b.length c3) := (blk_cell (blk_alloc (blk_new w (.cells #[.int .i64 t, .int .i64 s, .slice A2 a.length c2, .slice A3 b.length c3] 29)) _) 3).trans rfl
 have q3 : ((w.alloc (.cells #[.int .i64 t, .int .i64 s, .slice A2 a.length c2, .slice A3 b.length c3] 29)).alloc (.cells #[.int .i64 t, .int .i64 s, .slice B2 a.length d2, .slice B3 b.length d3] 29)).cell? ⟨w.heap.size + 1, 3, none⟩ = some (.slice B3 b.length d3) := (blk_cell (blk_at _ _ _ (by simp)) 3).trans rfl
 go_enter Tryd.func16, Tryd.ntmps16
 go_wp2_with (first
  | (go_at_call 55; go_loud (
    with_reducible refine (laws_eqBoolS.calls k1 _ _ a _ _ a true _ (Kd.C_below hA.r2 hb0) hA.l2 (Kd.C_below hB.r2 hb0) hB.l2 hk1.out).mono ?_
    rintro e w1 ⟨rfl, hd1⟩
    have hb1 := hd1.below
    have r3 := at_cell hb1 p3
    have s3 := at_cell hb1 q3
    have hB1 := below_step hb0 hb1))
  | (go_at_call 56; go_loud (
    with_reducible refine (laws_eqInt64SS.calls k2 _ _ b _ _ b true _ (Kd.C_below hA.r3 hB1) hA.l3 (Kd.C_below hB.r3 hB1) hB.l3 hk2.out).mono ?_
    rintro e w2 ⟨rfl, hd2⟩
    have hB2 := below_step hB1 hd2.below)))
 go_ret
 exact ⟨rfl, hB2⟩
end Go.Proofs.YtbamnonamdpooaaDoor.Lr
namespace Go.Proofs
open Go.Shelf
def Tryd.laysM171_ren : Go.Shelf.Ren := ⟨fun | 171 => 180 | 243 => 190 | 246 => 197 | 283 => 199 | 284 => 200 | 285 => 201 | 286 => 202 | 129 => 205 | 317 => 204 | 318 => 206 | 319 => 207 | 320 => 208 | 337 => 209 | 338 => 210 | n => n, fun | 3 => 3 | 9 => 9 | 2 => 2 | 4 => 4 | 171 => 206 | 0 => 0 | 53 => 207 | 37 => 178 | 5 => 5 | 173 => 210 | 212 => 214 | 51 => 215 | 20 => 20 | 213 => 216 | 46 => 169 | 232 => 219 | 233 => 220 | n => n, fun | 17 => 0 | 18 => 1 | 19 => 2 | n => n⟩
theorem Tryd.laysM171 : Go.Proofs.LaysM.n171 Tryd.prog Tryd.laysM171_ren := {
 mixed := by kernel_rfl
 f129 := Tryd.func205.trans (congrArg some (by kernel_rfl))
 f171 := Tryd.func180.trans (congrArg some (by kernel_rfl))
 f243 := Tryd.func190.trans (congrArg some (by kernel_rfl))
 f246 := Tryd.func197.trans (congrArg some (by kernel_rfl))
 f283 := Tryd.func199.trans (congrArg some (by kernel_rfl))
 f284 := Tryd.func200.trans (congrArg some (by kernel_rfl))
 f285 := Tryd.func201.trans (congrArg some (by kernel_rfl))
 f286 := Tryd.func202.trans (congrArg some (by kernel_rfl))
 f317 := Tryd.func204.trans (congrArg some (by kernel_rfl))
 f318 := Tryd.func206.trans (congrArg some (by kernel_rfl))
 f319 := Tryd.func207.trans (congrArg some (by kernel_rfl))
 f320 := Tryd.func208.trans (congrArg some (by kernel_rfl))
 f337 := Tryd.func209.trans (congrArg some (by kernel_rfl))
 f338 := Tryd.func210.trans (congrArg some (by kernel_rfl))
 t0 := Tryd.underlying0
 a0 := Tryd.isAgg0
 z0 := Tryd.sizeOf0
 v0 := Tryd.zeroValue0
 t2 := Tryd.underlying2
 a2 := Tryd.isAgg2
 z2 := Tryd.sizeOf2
 v2 := Tryd.zeroValue2
 t3 := Tryd.underlying3
 a3 := Tryd.isAgg3
 z3 := Tryd.sizeOf3
 v3 := Tryd.zeroValue3
 t4 := Tryd.underlying4
 a4 := Tryd.isAgg4
 z4 := Tryd.sizeOf4
 v4 := Tryd.zeroValue4
 t5 := Tryd.underlying5
 a5 := Tryd.isAgg5
 z5 := Tryd.sizeOf5
 v5 := Tryd.zeroValue5
 t9 := Tryd.underlying9
 a9 := Tryd.isAgg9
 z9 := Tryd.sizeOf9
 v9 := Tryd.zeroValue9
 t20 := Tryd.underlying20
 a20 := Tryd.isAgg20
 z20 := Tryd.sizeOf20
 v20 := Tryd.zeroValue20
 t37 := Tryd.underlying178
 a37 := Tryd.isAgg178
 z37 := Tryd.sizeOf178
 v37 := Tryd.zeroValue178
 t46 := Tryd.underlying169
 a46 := Tryd.isAgg169
 z46 := Tryd.sizeOf169
 v46 := Tryd.zeroValue169
 t51 := Tryd.underlying215
 a51 := Tryd.isAgg215
 z51 := Tryd.sizeOf215
 v51 := Tryd.zeroValue215
 t53 := Tryd.underlying207
 a53 := Tryd.isAgg207
 z53 := Tryd.sizeOf207
 v53 := Tryd.zeroValue207
 t171 := Tryd.underlying206
 a171 := Tryd.isAgg206
 z171 := Tryd.sizeOf206
 v171 := Tryd.zeroValue206
 t173 := Tryd.underlying210
 a173 := Tryd.isAgg210
 z173 := Tryd.sizeOf210
 v173 := Tryd.zeroValue210
 t212 := Tryd.underlying214
 a212 := Tryd.isAgg214
 z212 := Tryd.sizeOf214
 v212 := Tryd.zeroValue214
 t213 := Tryd.underlying216
 a213 := Tryd.isAgg216
 z213 := Tryd.sizeOf216
 t232 := Tryd.underlying219
 a232 := Tryd.isAgg219
 z232 := Tryd.sizeOf219
 v232 := Tryd.zeroValue219
 t233 := Tryd.underlying220
 a233 := Tryd.isAgg220
 z233 := Tryd.sizeOf220
 v233 := Tryd.zeroValue220
 g17 := by kernel_rfl
 g18 := by kernel_rfl
 g19 := by kernel_rfl
 i0 := by kernel_rfl
 i2 := by kernel_rfl
 i3 := by kernel_rfl
 i4 := by kernel_rfl
 i5 := by kernel_rfl
 i9 := by kernel_rfl
 i20 := by kernel_rfl
 i37 := by kernel_rfl
 i46 := by kernel_rfl
 i51 := by kernel_rfl
 i53 := by kernel_rfl
 i171 := by kernel_rfl
 i173 := by kernel_rfl
 i212 := by kernel_rfl
 i232 := by kernel_rfl
 i233 := by kernel_rfl
 m17 := by kernel_rfl
 m18 := by kernel_rfl
 m19 := by kernel_rfl }
open Go.RowKit Go.Sort Go.Lib in
/-- strconv.Itoa: "Itoa is equivalent to FormatInt(int64(i), 10).": i's DECIMAL NUMERAL ('Lib.itoa': a '-' where i is negative, then the digits), FOR EVERY int. The world behind the call: the world before it, new blocks behind the heap (the library's 'var a [24]byte'), draws. (LAID: no walk: one application.) -/
theorem Tryd.strconv_Itoa (n : Int) (h0 : -9223372036854775808 ≤ n) (h1 : n ≤ 9223372036854775807) (w : World) (htab : Lib.TabIs Tryd.prog w "internal/strconv.uint64pow10" .u64 Lib.pow10Tab) :
  Calls Tryd.prog 180 #[.int .i64 n] w fun e w' => e = .returned (.string ⟨(Lib.itoa n).toArray⟩) ∧ ∃ k os, w' = grow (w.drewN k) os := Any.strconv_Itoa Tryd.laysM171 n h0 h1 w htab
def Tryd.laysSlE041_f91_ren : Go.Shelf.Ren := ⟨fun | 41 => 91 | n => n, fun | 22 => 22 | 23 => 4 | 4 => 4 | n => n, fun | n => n⟩
theorem Tryd.laysSlE041_f91 : Go.Proofs.SlLaysE0.n41 Tryd.prog Tryd.laysSlE041_f91_ren := {
 mixed := by kernel_rfl
 f41 := ⟨Tryd.f91.name, by decide, Tryd.func91.trans (congrArg some (by kernel_rfl))⟩
 t4 := Tryd.underlying4
 a4 := Tryd.isAgg4
 z4 := Tryd.sizeOf4
 v4 := Tryd.zeroValue4
 t22 := Tryd.underlying22
 a22 := Tryd.isAgg22
 z22 := Tryd.sizeOf22
 v22 := Tryd.zeroValue22 }
open Go.RowKit Go.Lib in
/-- slices.Clone: "Clone returns a copy of the slice. The elements are copied using assignment, so this is a shallow clone. The result may have additional unused capacity. The result preserves the nilness of s.": OF A SLICE THAT IS NOT nil IT RETURNS A SLICE THAT IS NOT nil, OF THE SAME CELLS, IN MEMORY OF THE CALL's OWN ('ownsRow': the how-to's 6f); below the heap's size at the call all is as it was. (LAID AT THE INSTANCE 'slices.Clone[[]bool,bool]': no walk: one application.) -/
theorem Tryd.slices_Clone_f91 (i0 : TypeInfo) (z : Value) (size bytes : Nat) (hi : Tryd.prog.info? 4 = some i0) (hz0 : i0.zero = some z) (hz1 : i0.size = size) (hz2 : i0.bytes = bytes) (hzs : z.cells.size = size) (hsz : 0 < size) (z23 : ∀ w, (Go.sizeOf 4).run Tryd.prog w = .ok size w) (b off n c : Nat) (news : List Value) (w : World) (hl : news.length = n * size) (hn : n ≤ maxLen) (hbig : n * bytes ≤ 140737488355328) (hc : ∀ j u, news[j]? = some u → w.cell? ⟨b, off + j, none⟩ = some u) (h1 : ∀ u ∈ news, u.oneCell' = true) :
  Calls Tryd.prog 91 #[.slice (some ⟨b, off, none⟩) n c] w fun e w' => ∃ v', e = .returned v' ∧ w'.ownsRow w.heap.size 4 size v' n news ∧ v' ≠ .slice none 0 0 ∧ Below w.heap.size w w' := AnyE.slices_Clone Tryd.laysSlE041_f91 i0 z size bytes hi hz0 hz1 hz2 hzs hsz z23 b off n c news w hl hn hbig hc h1
end Go.Proofs
namespace Go.Proofs.YtbamnonamdpooaaDoor.It
set_option linter.unusedVariables false
set_option linter.unusedSimpArgs false
open Go.RowKit Go.Sort Go.Proofs.YtbamnonamdpooaaDoorW.PrintWords Go.Proofs.YtbamnonamdpooaaDoor.Mg
/-- The library's table of the powers of ten. -/
def Glob (w : World) : Prop := Lib.TabIs Tryd.prog w "internal/strconv.uint64pow10" .u64 Lib.pow10Tab
theorem glob_below (w w' : World) (h : Glob w) (hb : Below w.heap.size w w') : Glob w' := Lib.tabBelow_of_tabIs h w' hb
theorem below_grow (w : World) (k : Nat) (os : Array Obj) : Below w.heap.size w (grow (w.drewN k) os) :=
 ⟨rfl, rfl, rfl, by simp [grow], fun i hi => by simp [grow, Array.getElem?_append_left hi]⟩
def T (n : Nat) : ByteArray := if n ≤ 1000000 then ⟨(Lib.decDigits n).toArray⟩ else ⟨#[]⟩
theorem T_eq {n : Nat} (h : n ≤ 1000000) : T n = ⟨(Lib.decDigits n).toArray⟩ := if_pos h
theorem itoa (W : World) (n : Nat) (hG : Glob W) (hn : n ≤ 1000000) : Calls Tryd.prog 180 #[.int .i64 (n : Int)] W fun e W' => e = .returned (.string (T n)) ∧ Below W.heap.size W W' := by
 refine Calls.mono (Tryd.strconv_Itoa (n : Int) (by omega) (by omega) W hG) ?_
 rintro e w' ⟨rfl, k, os, rfl⟩
 refine ⟨?_, below_grow _ _ _⟩
 rw [T_eq hn]
 have e0 : ¬ ((n : Int) < 0) := by omega
 simp [Lib.itoa, e0]
theorem nDigits_le : ∀ (k u : Nat), u < 10 ^ (k + 1) → Lib.nDigits u ≤ k + 1
 | 0, u, h => by rw [Lib.nDigits_small (by simpa using h)]; exact Nat.le_refl _
 | k + 1, u, h => by
  by_cases hu : u < 10
  ·rw [Lib.nDigits_small hu]; omega
  ·rw [Lib.nDigits_big hu]
   have := nDigits_le k (u / 10) (by rw [Nat.pow_succ] at h; omega)
   omega
theorem T_size (n : Nat) : (T n).size ≤ 20 := by
 unfold T
 split
 ·show (Lib.decDigits n).toArray.size ≤ 20
  rw [List.size_toArray, Lib.decDigits_length]
  have := nDigits_le 6 n (by omega)
  omega
 ·exact Nat.zero_le _
def val (l : List UInt8) : Nat := l.foldl (fun a c => a * 10 + (c.toNat - 48)) 0
theorem val_dec (n : Nat) : val (Lib.decDigits n) = n := by
 induction n using Nat.strongRecOn with
 | _ n ih =>
  by_cases h : n < 10
  ·rw [Lib.decDigits, dif_pos h]
   simp [val, UInt8.toNat_ofNat']
   omega
  ·rw [Lib.decDigits, dif_neg h]
   have := ih (n / 10) (by omega)
   unfold val at this ⊢
   rw [List.foldl_append, this]
   simp [UInt8.toNat_ofNat']
   omega
theorem dec_not (n : Nat) : ∀ c ∈ Lib.decDigits n, c ≠ 44 := by
 induction n using Nat.strongRecOn with
 | _ n ih =>
  have h0 : ∀ d, d < 10 → UInt8.ofNat (48 + d) ≠ 44 := by decide
  by_cases h : n < 10
  ·rw [Lib.decDigits, dif_pos h]
   intro c hc
   rw [List.mem_singleton.1 hc]
   exact h0 n h
  ·rw [Lib.decDigits, dif_neg h]
   intro c hc
   rcases List.mem_append.1 hc with hc | hc
   ·exact ih (n / 10) (by omega) c hc
   ·rw [List.mem_singleton.1 hc]
    exact h0 _ (Nat.mod_lt _ (by omega))
def rest (l : List Nat) : List UInt8 := l.flatMap (fun m => 44 :: Lib.decDigits m)
theorem key_list (s : ByteArray) : ∀ l : List Nat, (∀ x ∈ l, x ≤ 1000000) → (keyF T s l).data.toList = s.data.toList ++ rest l := by
 intro l
 induction l generalizing s with
 | nil => intro _; simp [keyF, rest]
 | cons m l ih =>
  intro h
  have e : keyF T s (m :: l) = keyF T (s ++ (⟨#[44]⟩ ++ T m)) l := rfl
  rw [e, ih _ (fun x hx => h x (List.mem_cons_of_mem _ hx)), T_eq (h m (List.mem_cons_self ..))]
  simp [rest, ByteArray.data_append]
theorem cut {a b x y : List UInt8} (ha : ∀ c ∈ a, c ≠ 44) (hb : ∀ c ∈ b, c ≠ 44) (hx : x = [] ∨ ∃ r, x = 44 :: r) (hy : y = [] ∨ ∃ r, y = 44 :: r) (h : a ++ x = b ++ y) : a = b ∧ x = y := by
 induction a generalizing b with
 | nil =>
  cases b with
  | nil => exact ⟨rfl, h⟩
  | cons c b =>
   rcases hx with rfl | ⟨r, rfl⟩
   ·cases h
   ·simp only [List.nil_append, List.cons_append, List.cons.injEq] at h
    exact absurd h.1.symm (hb c (List.mem_cons_self ..))
 | cons c a ih =>
  cases b with
  | nil =>
   rcases hy with rfl | ⟨r, rfl⟩
   ·cases h
   ·simp only [List.nil_append, List.cons_append, List.cons.injEq] at h
    exact absurd h.1 (ha c (List.mem_cons_self ..))
  | cons c' b =>
   simp only [List.cons_append, List.cons.injEq] at h
   obtain ⟨h1, h2⟩ := ih (fun x hx => ha x (List.mem_cons_of_mem _ hx)) (fun x hx => hb x (List.mem_cons_of_mem _ hx)) h.2
   exact ⟨by rw [h.1, h1], h2⟩
theorem rest_form (l : List Nat) : rest l = [] ∨ ∃ r, rest l = 44 :: r := by
 cases l with
 | nil => exact .inl rfl
 | cons m l => exact .inr ⟨_, rfl⟩
theorem rest_inj : ∀ a b : List Nat, rest a = rest b → a = b
 | [], [], _ => rfl
 | [], m :: b, h => by simp [rest] at h
 | m :: a, [], h => by simp [rest] at h
 | m :: a, n :: b, h => by
  have e : ∀ (m : Nat) (a : List Nat), rest (m :: a) = 44 :: (Lib.decDigits m ++ rest a) := fun m a => by simp [rest]
  rw [e, e, List.cons.injEq] at h
  obtain ⟨h1, h2⟩ := cut (dec_not m) (dec_not n) (rest_form a) (rest_form b) h.2
  rw [rest_inj a b h2, ← val_dec m, h1, val_dec]
theorem inj (a b : List Nat) (ha : a ≠ []) (hb : b ≠ []) (hla : ∀ x ∈ a, x ≤ 1000000) (hlb : ∀ x ∈ b, x ≤ 1000000) (h : keyB T a = keyB T b) : a = b := by
 cases a with
 | nil => exact absurd rfl ha
 | cons m a =>
  cases b with
  | nil => exact absurd rfl hb
  | cons n b =>
   have h2 : (keyF T (T m) a).data.toList = (keyF T (T n) b).data.toList := by
    have : keyF T (T m) a = keyF T (T n) b := h
    rw [this]
   rw [key_list _ a (fun x hx => hla x (List.mem_cons_of_mem _ hx)), key_list _ b (fun x hx => hlb x (List.mem_cons_of_mem _ hx)), T_eq (hla m (List.mem_cons_self ..)), T_eq (hlb n (List.mem_cons_self ..))] at h2
   obtain ⟨h3, h4⟩ := cut (by simpa using dec_not m) (by simpa using dec_not n) (rest_form a) (rest_form b) h2
   have h5 : Lib.decDigits m = Lib.decDigits n := by simpa using h3
   rw [rest_inj a b h4, ← val_dec m, h5, val_dec]
end Go.Proofs.YtbamnonamdpooaaDoor.It
namespace Go.Proofs.YtbamnonamdpooaaDoor.Td
set_option linter.unusedVariables false
set_option linter.unusedSimpArgs false
open Go.RowKit Go.Proofs.YtbamnonamdpooaaDoorW.PrintWords Go.Proofs.YtbamnonamdpooaaDoorW.PrintLast Go.Proofs.YtbamnonamdpooaaDoorW.PrintMore Go.Proofs.YtbamnonamdpooaaDoor.Mp Go.Proofs.YtbamnonamdpooaaDoor.Kp Go.Proofs.YtbamnonamdpooaaDoor.Ky Go.Proofs.YtbamnonamdpooaaDoor.Fv Go.Proofs.YtbamnonamdpooaaDoor.Tdy Go.Proofs.YtbamnonamdpooaaDoor.Cl Go.Proofs.YtbamnonamdpooaaDoor.Mg
set_option maxHeartbeats 8000000 in
set_option maxRecDepth 100000 in
theorem tidy (T : Nat → ByteArray) (hT : ∀ n, (T n).size ≤ 20) (GI : World → Prop) (hGI : ∀ W W', GI W → Below W.heap.size W W' → GI W')
  (hItoa : ∀ W (n : Nat), GI W → n ≤ 1000000 → Calls Tryd.prog 180 #[.int .i64 (n : Int)] W fun e W' => e = .returned (.string (T n)) ∧ Below W.heap.size W W')
  (hinj : ∀ a b : List Nat, a ≠ [] → b ≠ [] → (∀ x ∈ a, x ≤ 1000000) → (∀ x ∈ b, x ≤ 1000000) → keyB T a = keyB T b → a = b)
  (tapes : Nat) (htp : tapes ≤ 3) (start : Nat) (accs : List Bool) (rows : List (List Nat)) (wd : Nat) (hwd1 : 0 < wd) (hwd2 : wd ≤ 30) (hcl : Closed wd rows accs) (hn : rows.length ≤ 100000) (hst : start < rows.length)
  (hwd : ∀ W, Calls Tryd.prog 124 #[.int .i64 tapes] W fun e W' => e = .returned (.int .i64 wd) ∧ Below W.heap.size W W')
  (dig : Nat → List Nat) (hdl : ∀ c, c < wd → (dig c).length = tapes) (hds : ∀ c, c < wd → ∀ d ∈ dig c, d < 3)
  (hdig : ∀ W c, c < wd → Calls Tryd.prog 69 #[.int .i64 tapes, .int .i64 (c : Int)] W fun e W' => ∃ v, e = .returned v ∧ Kd.R (Kd.int .i64) 3 W' W.heap.size (fun _ => True) v (ints (dig c)) ∧ Below W.heap.size W W')
  (w : World) (hG : GI w) (AA : Option Addr) (ca : Nat) (AN : Option Addr) (cn : Nat) (hA : Kd.C Kd.bool w AA accs.length accs) (hN : Kd.C (Kd.slice 3 (Kd.int .i64)) w AN rows.length (rows.map ints)) (hca : accs.length ≤ ca) (hcn : rows.length ≤ cn) (bs : List Bool) (rws : List (List Nat)) (ht : Tidied wd rows accs start (padOf dig) bs rws) :
  Calls Tryd.prog 114 #[.agg #[.int .i64 tapes, .int .i64 start, .slice AA accs.length ca, .slice AN rows.length cn]] w fun e w' => ∃ vA vN, e = .returned (.agg #[.int .i64 tapes, .int .i64 0, vA, vN]) ∧
   Kd.R Kd.bool 4 w' w.heap.size (fun _ => True) vA bs ∧ Kd.R (Kd.slice 3 (Kd.int .i64)) 97 w' w.heap.size (fun _ => True) vN (rws.map ints) ∧ Below w.heap.size w w' := by
 have hte := Aside0.mk ht.is
 clear ht
 go_enter Tryd.func114, Tryd.ntmps114
 go_wp2_with (first
  | (go_at_call 124; go_loud (with_reducible refine (hwd _).mono ?_); rintro e w1 ⟨rfl, hb1⟩; have bM1 := blk_below (blk_alloc (blk_new w (.cells #[.int .i64 (tapes : Int), .int .i64 (start : Int), .slice AA accs.length ca, .slice AN rows.length cn] 77)) (.cells #[.int .i64 0, .int .i64 0, .slice none 0 0, .slice none 0 0] 77)) hb1; have bR1 := blk_below (blk_at (w.alloc (.cells #[.int .i64 (tapes : Int), .int .i64 (start : Int), .slice AA accs.length ca, .slice AN rows.length cn] 77)) (.cells #[.int .i64 0, .int .i64 0, .slice none 0 0, .slice none 0 0] 77) (w.heap.size + 1) (by simp)) hb1; have hB1 := below_step (below_alloc (below_alloc (Below.refl _ _) _) _) hb1)
  | ((with_reducible refine gate_dst (N := 12) rfl ?_); go_loud (refine Kd.R_make (Kd.int .i64) (w0 := w) w.heap.size 3 rfl (N := 12) rfl 97 _ _ rfl (wd : Int) rfl rfl Tryd.underlying97 (.int .i64 0) 8 GwI.info_int rfl (by decide) (by decide) (0 : Int) (ok := fun _ => True) (okp := fun _ => False) rfl (fun _ h => h.elim) trivial (by omega) (by simp; omega) hB1 (Below.size hB1) ?_; intro v2 w2 hR2 hb2 hg2 hn2; simp only [Int.toNat_natCast] at hR2; obtain ⟨gr, cr, hv2, hgr, hgl, _⟩ := Kd.R_form hR2 (by simp; omega); subst hv2; rw [List.length_replicate] at hR2; have M2 : M w tapes start AA accs.length ca AN rows.length cn w2.heap.size (.slice (some ⟨gr, 0, none⟩) wd cr) (List.replicate wd 0) none (w2.alloc (.cells #[.slice (some ⟨gr, 0, none⟩) wd cr] 97)) := ⟨blk_alloc ((Keep.grown hg2).obj bM1 (by simp)) _, blk_alloc ((Keep.grown hg2).obj bR1 (by simp)) _, blk_new _ _, (by rw [ints_replicate]; exact Kd.R_mono (Kd.R_below hR2 (below_alloc (Below.refl _ _) _)) (fun _ _ => ⟨trivial, by simp⟩)), below_alloc hb2 _⟩; clear bM1 bR1 hR2 hn2 hg2 hb2 hB1)))
 have hws : Aside0 (w.heap.size ≤ w2.heap.size) := ⟨by have := M2.lt; have := M2.bel.size; omega⟩
 go_loopg [15] wd (fun kq v15 wr => ∃ (c : Nat), v15 = .int .i64 (c : Int) ∧ Aside0 (kq = wd - c) ∧ c ≤ wd ∧ Aside0 (M w tapes start AA accs.length ca AN rows.length cn w2.heap.size (.slice (some ⟨gr, 0, none⟩) wd cr) (padsTo dig wd c) none wr))
 case atStart => exact ⟨0, rfl, ⟨by simp⟩, Nat.zero_le _, ⟨by simpa [padsTo] using M2⟩⟩
 case round =>
  clear M2
  obtain ⟨wo, rfl⟩ : ∃ wo : World, wo = wr := ⟨_, rfl⟩
  obtain ⟨c, rfl, hkq, hcw, hM⟩ := hrel
  replace hM := hM.out
  by_cases hlt : c < wd
  ·have c0 : wo.cell? ⟨w.heap.size, 0, none⟩ = some (.int .i64 (tapes : Int)) := (blk_cell hM.bM 0).trans rfl
   have hlt1 : ((c : Int) < (wd : Int)) = True := eq_true (by omega)
   go_wp2_with (go_at_call 69; go_loud (with_reducible refine (hdig _ c hlt).mono ?_); rintro e w3 ⟨v3, rfl, hR3, hb3⟩; obtain ⟨A3, c3, hv3⟩ := Kd.R_slice hR3; subst hv3; rw [ints_length, hdl c hlt] at hR3 ⊢; have h3 := hM.step hb3)
   obtain ⟨hbp, cells, hcp⟩ := row_blk hM.grp (by rw [ints_length, padsTo_at dig hlt, padsAt_length dig hlt]; omega)
   have hgl2 := blk_lt hcp
   have hR4 : Kd.R (Kd.int .i64) 3 w3 wo.heap.size (fun k => True ∧ some k ≠ some gr) (.slice A3 tapes c3) (ints (dig c)) := Kd.R_mono (Kd.R_bound hR3) (fun k hk => ⟨trivial, fun e => by cases e; have := hk.2.1; omega⟩)
   rw [padsTo_at dig hlt] at h3
   clear hR3 hcp cells c0 hgl2
   have hdc := Aside0.mk (hdl c hlt)
   have hdd := Aside0.mk (hds c hlt)
   go_loopg [23] tapes (fun kq v23 wq => ∃ (t p : Nat), v23 = .int .i64 (t : Int) ∧ Aside0 (kq = tapes - t) ∧ t ≤ tapes ∧ p < 8 ∧ Aside0 (padsF p t ((dig c).drop t) = padOf dig c) ∧ Aside0 (Kd.R (Kd.int .i64) 3 wq wo.heap.size (fun k => True ∧ some k ≠ some gr) (.slice A3 tapes c3) (ints (dig c))) ∧ Aside0 (M w tapes start AA accs.length ca AN rows.length cn w2.heap.size (.slice (some ⟨gr, 0, none⟩) wd cr) (padsAt dig wd c p) none wq))
   case atStart => exact ⟨0, 0, rfl, ⟨by simp⟩, Nat.zero_le _, by omega, ⟨rfl⟩, ⟨hR4⟩, ⟨h3⟩⟩
   case round =>
    clear h3 hR4 hb3
    obtain ⟨t, p, rfl, hkt, htt, hp8, HP, hD, hQ⟩ := hrel
    replace hD := hD.out
    replace hQ := hQ.out
    by_cases htl : t < tapes
    ·have hdc2 := hdc.out
     obtain ⟨ad, rfl, k1⟩ := num_at' hD (i := t) (by omega)
     have hdt := hdd.out _ (List.getElem_mem (show t < (dig c).length by omega))
     have HP2 := HP.out
     rw [List.drop_eq_getElem_cons (show t < (dig c).length by omega), padsF] at HP2
     have HP3 := Aside0.mk HP2
     clear HP2 HP
     generalize (dig c)[t]'(by omega) = d at *
     clear hdc2
     have hlt1 : ((t : Int) < (tapes : Int)) = True := eq_true (by omega)
     have h0t : (0 ≤ (t : Int)) = True := eq_true (by omega)
     have hdl2 : d < 3 := hdt
     by_cases hd2 : d = 2
     ·subst d
      have hpl : (padsAt dig wd c p).length = wd := padsAt_length dig hlt
      have k2 := num_at hQ.grp (i := c) (by omega)
      rw [padsAt_get dig (by omega)] at k2
      obtain ⟨hbp2, cells, hcp⟩ := row_blk hQ.grp (by rw [ints_length, hpl]; omega)
      have f2 : wr.frozen? ⟨gr, c, none⟩ = false := blk_frozen hcp c
      have cG : wr.cell? ⟨w2.heap.size, 0, none⟩ = some (.slice (some ⟨gr, 0, none⟩) wd cr) := (blk_cell hQ.bG 0).trans rfl
      have hcw1 : ((c : Int) < (wd : Int)) = True := eq_true (by omega)
      have h0c : (0 ≤ (c : Int)) = True := eq_true (by omega)
      clear hpl hcp cells hdt hdl2
      have htr : t = 0 ∨ t = 1 ∨ t = 2 := by omega
      go_wp2_with fail
      rcases htr with rfl | rfl | rfl
      ·have hor : bits .or .i64 (p : Int) 1 = ((p ||| 1 : Nat) : Int) ∧ p ||| 1 < 8 := or_fact 0 (by omega) p hp8
       have hor1 : bits .or .i64 (p : Int) (wrap64 1) = ((p ||| 1 : Nat) : Int) := by rw [show wrap64 1 = 1 from by kernel_rfl]; exact hor.1
       refine start_ (n := 9) (S := fun w' => w'.cell? ⟨w2.heap.size, 0, none⟩ = some (.slice (some ⟨gr, 0, none⟩) wd cr) ∧ w'.cell? ⟨gr, c, none⟩ = some (.int .i64 (p : Int))) (ds := [8]) #[false, false, false, false, false, false, false, false, false] (by kernel_rfl) rfl rfl (⟨cG, k2⟩) (fun hHeld => ?_)
       refine pure_ (i := 1) (N := some 31) (v := ?_) (a' := ?_) #[false, true, false, false, false, false, false, false, false] rfl rfl (by kernel_rfl) (fun _ _ _ h => h) (Or.inl ⟨by rfl, ?_⟩) ?_ ?_
       rotate_left
       ·intro w'
        go_simp
        with_reducible rfl
       rotate_left
       ·simp only [Act.put, List.setIfInBounds_toArray, List.set_cons_zero, List.set_cons_succ, i64_w, i32_w]
        rfl
       refine pure_ (i := 4) (N := some 34) (v := ?_) (a' := ?_) #[false, true, false, false, true, false, false, false, false] rfl rfl (by kernel_rfl) (fun _ _ _ h => h) (Or.inl ⟨by rfl, ?_⟩) ?_ ?_
       rotate_left
       ·intro w'
        go_simp
        with_reducible rfl
       rotate_left
       ·simp only [Act.put, List.setIfInBounds_toArray, List.set_cons_zero, List.set_cons_succ, i64_w, i32_w]
        rfl
       refine pure_ (i := 5) (N := some 35) (v := ?_) (a' := ?_) #[false, true, false, false, true, true, false, false, false] rfl rfl (by kernel_rfl) (fun _ _ _ h => h) (Or.inl ⟨by rfl, ?_⟩) ?_ ?_
       rotate_left
       ·intro w'
        go_simp
        with_reducible rfl
       rotate_left
       ·simp only [Act.put, List.setIfInBounds_toArray, List.set_cons_zero, List.set_cons_succ, i64_w, i32_w]
        rfl
       refine take_ (i := 0) (N := some 30) (v := ?_) (a' := ?_) #[true, true, false, false, true, true, false, false, false] rfl rfl (by kernel_rfl) (fun _ _ _ h => h) (Or.inl ⟨by rfl, ?_⟩) hHeld ?_ ?_
       rotate_left
       ·rintro w' ⟨s1, s2⟩
        go_simp
        with_reducible rfl
       rotate_left
       ·simp only [Act.put, List.setIfInBounds_toArray, List.set_cons_zero, List.set_cons_succ, i64_w, i32_w]
        rfl
       refine pure_ (i := 2) (N := some 32) (v := ?_) (a' := ?_) #[true, true, true, false, true, true, false, false, false] rfl rfl (by kernel_rfl) (fun _ _ _ h => h) (Or.inl ⟨by rfl, ?_⟩) ?_ ?_
       rotate_left
       ·intro w'
        go_simp
        with_reducible rfl
       rotate_left
       ·simp only [Act.put, List.setIfInBounds_toArray, List.set_cons_zero, List.set_cons_succ, i64_w, i32_w]
        rfl
       refine take_ (i := 3) (N := some 33) (v := ?_) (a' := ?_) #[true, true, true, true, true, true, false, false, false] rfl rfl (by kernel_rfl) (fun _ _ _ h => h) (Or.inl ⟨by rfl, ?_⟩) hHeld ?_ ?_
       rotate_left
       ·rintro w' ⟨s1, s2⟩
        go_simp
        with_reducible rfl
       rotate_left
       ·simp only [Act.put, List.setIfInBounds_toArray, List.set_cons_zero, List.set_cons_succ, i64_w, i32_w]
        rfl
       refine pure_ (i := 6) (N := some 36) (v := ?_) (a' := ?_) #[true, true, true, true, true, true, true, false, false] rfl rfl (by kernel_rfl) (fun _ _ _ h => h) (Or.inl ⟨by rfl, ?_⟩) ?_ ?_
       rotate_left
       ·intro w'
        go_simp
        with_reducible rfl
       rotate_left
       ·simp only [Act.put, List.setIfInBounds_toArray, List.set_cons_zero, List.set_cons_succ, i64_w, i32_w]
        rfl
       refine pure_ (i := 7) (N := some 37) (v := ?_) (a' := ?_) #[true, true, true, true, true, true, true, true, false] rfl rfl (by kernel_rfl) (fun _ _ _ h => h) (Or.inl ⟨by rfl, ?_⟩) ?_ ?_
       rotate_left
       ·intro w'
        go_simp
        with_reducible rfl
       rotate_left
       ·simp only [Act.put, List.setIfInBounds_toArray, List.set_cons_zero, List.set_cons_succ, i64_w, i32_w]
        rfl
       have hq1 := hHeld.2
       have hf1 : wr.drew.frozen? ⟨gr, c, none⟩ = false := f2
       refine last_ (i := 8) (N := none) #[true, true, true, true, true, true, true, true, true] rfl rfl (by kernel_rfl) (by decide) (fun K hK => ?_)
       refine skip_ (w1 := wr.drew.setCell ⟨gr, c, none⟩ (.int .i64 ((p ||| 1 : Nat) : Int))) (by rfl) rfl (by first | (go_simp; done) | (go_simp; rfl)) ?_
       refine hK.out _ _ ?_
       clear hK K
       refine done_ (by kernel_rfl) ?_
       have hM5 := (hQ.step (below_drew1 (Below.refl _ _))).put hbp2 c (p ||| 1)
       rw [padsAt_set] at hM5
       have hD5 := R_apart (Kd.R_below hD (below_drew1 (Below.refl _ _))) (Keep.set wr.drew ⟨gr, c, none⟩ (.int .i64 ((p ||| 1 : Nat) : Int)))
       go_wp2_with fail
       go_roundg (tapes - (0 + 1))
       case measure => have := hkt.out; omega
       case rel => exact ⟨1, p ||| 1, (by go_num), ⟨by simp⟩, by omega, hor.2, ⟨by have := HP3.out; rw [if_pos trivial] at this; exact this⟩, ⟨hD5⟩, ⟨hM5⟩⟩
      ·have hor : bits .or .i64 (p : Int) 2 = ((p ||| 2 : Nat) : Int) ∧ p ||| 2 < 8 := or_fact 1 (by omega) p hp8
       have hor1 : bits .or .i64 (p : Int) (wrap64 2) = ((p ||| 2 : Nat) : Int) := by rw [show wrap64 2 = 2 from by kernel_rfl]; exact hor.1
       refine start_ (n := 9) (S := fun w' => w'.cell? ⟨w2.heap.size, 0, none⟩ = some (.slice (some ⟨gr, 0, none⟩) wd cr) ∧ w'.cell? ⟨gr, c, none⟩ = some (.int .i64 (p : Int))) (ds := [8]) #[false, false, false, false, false, false, false, false, false] (by kernel_rfl) rfl rfl (⟨cG, k2⟩) (fun hHeld => ?_)
       refine pure_ (i := 1) (N := some 31) (v := ?_) (a' := ?_) #[false, true, false, false, false, false, false, false, false] rfl rfl (by kernel_rfl) (fun _ _ _ h => h) (Or.inl ⟨by rfl, ?_⟩) ?_ ?_
       rotate_left
       ·intro w'
        go_simp
        with_reducible rfl
       rotate_left
       ·simp only [Act.put, List.setIfInBounds_toArray, List.set_cons_zero, List.set_cons_succ, i64_w, i32_w]
        rfl
       refine pure_ (i := 4) (N := some 34) (v := ?_) (a' := ?_) #[false, true, false, false, true, false, false, false, false] rfl rfl (by kernel_rfl) (fun _ _ _ h => h) (Or.inl ⟨by rfl, ?_⟩) ?_ ?_
       rotate_left
       ·intro w'
        go_simp
        with_reducible rfl
       rotate_left
       ·simp only [Act.put, List.setIfInBounds_toArray, List.set_cons_zero, List.set_cons_succ, i64_w, i32_w]
        rfl
       refine pure_ (i := 5) (N := some 35) (v := ?_) (a' := ?_) #[false, true, false, false, true, true, false, false, false] rfl rfl (by kernel_rfl) (fun _ _ _ h => h) (Or.inl ⟨by rfl, ?_⟩) ?_ ?_
       rotate_left
       ·intro w'
        go_simp
        with_reducible rfl
       rotate_left
       ·simp only [Act.put, List.setIfInBounds_toArray, List.set_cons_zero, List.set_cons_succ, i64_w, i32_w]
        rfl
       refine take_ (i := 0) (N := some 30) (v := ?_) (a' := ?_) #[true, true, false, false, true, true, false, false, false] rfl rfl (by kernel_rfl) (fun _ _ _ h => h) (Or.inl ⟨by rfl, ?_⟩) hHeld ?_ ?_
       rotate_left
       ·rintro w' ⟨s1, s2⟩
        go_simp
        with_reducible rfl
       rotate_left
       ·simp only [Act.put, List.setIfInBounds_toArray, List.set_cons_zero, List.set_cons_succ, i64_w, i32_w]
        rfl
       refine pure_ (i := 2) (N := some 32) (v := ?_) (a' := ?_) #[true, true, true, false, true, true, false, false, false] rfl rfl (by kernel_rfl) (fun _ _ _ h => h) (Or.inl ⟨by rfl, ?_⟩) ?_ ?_
       rotate_left
       ·intro w'
        go_simp
        with_reducible rfl
       rotate_left
       ·simp only [Act.put, List.setIfInBounds_toArray, List.set_cons_zero, List.set_cons_succ, i64_w, i32_w]
        rfl
       refine take_ (i := 3) (N := some 33) (v := ?_) (a' := ?_) #[true, true, true, true, true, true, false, false, false] rfl rfl (by kernel_rfl) (fun _ _ _ h => h) (Or.inl ⟨by rfl, ?_⟩) hHeld ?_ ?_
       rotate_left
       ·rintro w' ⟨s1, s2⟩
        go_simp
        with_reducible rfl
       rotate_left
       ·simp only [Act.put, List.setIfInBounds_toArray, List.set_cons_zero, List.set_cons_succ, i64_w, i32_w]
        rfl
       refine pure_ (i := 6) (N := some 36) (v := ?_) (a' := ?_) #[true, true, true, true, true, true, true, false, false] rfl rfl (by kernel_rfl) (fun _ _ _ h => h) (Or.inl ⟨by rfl, ?_⟩) ?_ ?_
       rotate_left
       ·intro w'
        go_simp
        with_reducible rfl
       rotate_left
       ·simp only [Act.put, List.setIfInBounds_toArray, List.set_cons_zero, List.set_cons_succ, i64_w, i32_w]
        rfl
       refine pure_ (i := 7) (N := some 37) (v := ?_) (a' := ?_) #[true, true, true, true, true, true, true, true, false] rfl rfl (by kernel_rfl) (fun _ _ _ h => h) (Or.inl ⟨by rfl, ?_⟩) ?_ ?_
       rotate_left
       ·intro w'
        go_simp
        with_reducible rfl
       rotate_left
       ·simp only [Act.put, List.setIfInBounds_toArray, List.set_cons_zero, List.set_cons_succ, i64_w, i32_w]
        rfl
       have hq1 := hHeld.2
       have hf1 : wr.drew.frozen? ⟨gr, c, none⟩ = false := f2
       refine last_ (i := 8) (N := none) #[true, true, true, true, true, true, true, true, true] rfl rfl (by kernel_rfl) (by decide) (fun K hK => ?_)
       refine skip_ (w1 := wr.drew.setCell ⟨gr, c, none⟩ (.int .i64 ((p ||| 2 : Nat) : Int))) (by rfl) rfl (by first | (go_simp; done) | (go_simp; rfl)) ?_
       refine hK.out _ _ ?_
       clear hK K
       refine done_ (by kernel_rfl) ?_
       have hM5 := (hQ.step (below_drew1 (Below.refl _ _))).put hbp2 c (p ||| 2)
       rw [padsAt_set] at hM5
       have hD5 := R_apart (Kd.R_below hD (below_drew1 (Below.refl _ _))) (Keep.set wr.drew ⟨gr, c, none⟩ (.int .i64 ((p ||| 2 : Nat) : Int)))
       go_wp2_with fail
       go_roundg (tapes - (1 + 1))
       case measure => have := hkt.out; omega
       case rel => exact ⟨2, p ||| 2, (by go_num), ⟨by simp⟩, by omega, hor.2, ⟨by have := HP3.out; rw [if_pos trivial] at this; exact this⟩, ⟨hD5⟩, ⟨hM5⟩⟩
      ·have hor : bits .or .i64 (p : Int) 4 = ((p ||| 4 : Nat) : Int) ∧ p ||| 4 < 8 := or_fact 2 (by omega) p hp8
       have hor1 : bits .or .i64 (p : Int) (wrap64 4) = ((p ||| 4 : Nat) : Int) := by rw [show wrap64 4 = 4 from by kernel_rfl]; exact hor.1
       refine start_ (n := 9) (S := fun w' => w'.cell? ⟨w2.heap.size, 0, none⟩ = some (.slice (some ⟨gr, 0, none⟩) wd cr) ∧ w'.cell? ⟨gr, c, none⟩ = some (.int .i64 (p : Int))) (ds := [8]) #[false, false, false, false, false, false, false, false, false] (by kernel_rfl) rfl rfl (⟨cG, k2⟩) (fun hHeld => ?_)
       refine pure_ (i := 1) (N := some 31) (v := ?_) (a' := ?_) #[false, true, false, false, false, false, false, false, false] rfl rfl (by kernel_rfl) (fun _ _ _ h => h) (Or.inl ⟨by rfl, ?_⟩) ?_ ?_
       rotate_left
       ·intro w'
        go_simp
        with_reducible rfl
       rotate_left
       ·simp only [Act.put, List.setIfInBounds_toArray, List.set_cons_zero, List.set_cons_succ, i64_w, i32_w]
        rfl
       refine pure_ (i := 4) (N := some 34) (v := ?_) (a' := ?_) #[false, true, false, false, true, false, false, false, false] rfl rfl (by kernel_rfl) (fun _ _ _ h => h) (Or.inl ⟨by rfl, ?_⟩) ?_ ?_
       rotate_left
       ·intro w'
        go_simp
        with_reducible rfl
       rotate_left
       ·simp only [Act.put, List.setIfInBounds_toArray, List.set_cons_zero, List.set_cons_succ, i64_w, i32_w]
        rfl
       refine pure_ (i := 5) (N := some 35) (v := ?_) (a' := ?_) #[false, true, false, false, true, true, false, false, false] rfl rfl (by kernel_rfl) (fun _ _ _ h => h) (Or.inl ⟨by rfl, ?_⟩) ?_ ?_
       rotate_left
       ·intro w'
        go_simp
        with_reducible rfl
       rotate_left
       ·simp only [Act.put, List.setIfInBounds_toArray, List.set_cons_zero, List.set_cons_succ, i64_w, i32_w]
        rfl
       refine take_ (i := 0) (N := some 30) (v := ?_) (a' := ?_) #[true, true, false, false, true, true, false, false, false] rfl rfl (by kernel_rfl) (fun _ _ _ h => h) (Or.inl ⟨by rfl, ?_⟩) hHeld ?_ ?_
       rotate_left
       ·rintro w' ⟨s1, s2⟩
        go_simp
        with_reducible rfl
       rotate_left
       ·simp only [Act.put, List.setIfInBounds_toArray, List.set_cons_zero, List.set_cons_succ, i64_w, i32_w]
        rfl
       refine pure_ (i := 2) (N := some 32) (v := ?_) (a' := ?_) #[true, true, true, false, true, true, false, false, false] rfl rfl (by kernel_rfl) (fun _ _ _ h => h) (Or.inl ⟨by rfl, ?_⟩) ?_ ?_
       rotate_left
       ·intro w'
        go_simp
        with_reducible rfl
       rotate_left
       ·simp only [Act.put, List.setIfInBounds_toArray, List.set_cons_zero, List.set_cons_succ, i64_w, i32_w]
        rfl
       refine take_ (i := 3) (N := some 33) (v := ?_) (a' := ?_) #[true, true, true, true, true, true, false, false, false] rfl rfl (by kernel_rfl) (fun _ _ _ h => h) (Or.inl ⟨by rfl, ?_⟩) hHeld ?_ ?_
       rotate_left
       ·rintro w' ⟨s1, s2⟩
        go_simp
        with_reducible rfl
       rotate_left
       ·simp only [Act.put, List.setIfInBounds_toArray, List.set_cons_zero, List.set_cons_succ, i64_w, i32_w]
        rfl
       refine pure_ (i := 6) (N := some 36) (v := ?_) (a' := ?_) #[true, true, true, true, true, true, true, false, false] rfl rfl (by kernel_rfl) (fun _ _ _ h => h) (Or.inl ⟨by rfl, ?_⟩) ?_ ?_
       rotate_left
       ·intro w'
        go_simp
        with_reducible rfl
       rotate_left
       ·simp only [Act.put, List.setIfInBounds_toArray, List.set_cons_zero, List.set_cons_succ, i64_w, i32_w]
        rfl
       refine pure_ (i := 7) (N := some 37) (v := ?_) (a' := ?_) #[true, true, true, true, true, true, true, true, false] rfl rfl (by kernel_rfl) (fun _ _ _ h => h) (Or.inl ⟨by rfl, ?_⟩) ?_ ?_
       rotate_left
       ·intro w'
        go_simp
        with_reducible rfl
       rotate_left
       ·simp only [Act.put, List.setIfInBounds_toArray, List.set_cons_zero, List.set_cons_succ, i64_w, i32_w]
        rfl
       have hq1 := hHeld.2
       have hf1 : wr.drew.frozen? ⟨gr, c, none⟩ = false := f2
       refine last_ (i := 8) (N := none) #[true, true, true, true, true, true, true, true, true] rfl rfl (by kernel_rfl) (by decide) (fun K hK => ?_)
       refine skip_ (w1 := wr.drew.setCell ⟨gr, c, none⟩ (.int .i64 ((p ||| 4 : Nat) : Int))) (by rfl) rfl (by first | (go_simp; done) | (go_simp; rfl)) ?_
       refine hK.out _ _ ?_
       clear hK K
       refine done_ (by kernel_rfl) ?_
       have hM5 := (hQ.step (below_drew1 (Below.refl _ _))).put hbp2 c (p ||| 4)
       rw [padsAt_set] at hM5
       have hD5 := R_apart (Kd.R_below hD (below_drew1 (Below.refl _ _))) (Keep.set wr.drew ⟨gr, c, none⟩ (.int .i64 ((p ||| 4 : Nat) : Int)))
       go_wp2_with fail
       go_roundg (tapes - (2 + 1))
       case measure => have := hkt.out; omega
       case rel => exact ⟨3, p ||| 4, (by go_num), ⟨by simp⟩, by omega, hor.2, ⟨by have := HP3.out; rw [if_pos trivial] at this; exact this⟩, ⟨hD5⟩, ⟨hM5⟩⟩
     ·have he : ((d : Int) == 2) = false := beq_eq_false_iff_ne.2 (by omega)
      go_wp2_with fail
      go_roundg (tapes - (t + 1))
      case measure => have := hkt.out; omega
      case rel => exact ⟨t + 1, p, (by go_num), ⟨by simp⟩, by omega, hp8, ⟨by rw [← HP3.out, if_neg hd2]⟩, ⟨hD⟩, ⟨hQ⟩⟩
    ·have htt2 : t = tapes := by omega
     subst htt2
     have hlt1 : ((t : Int) < (t : Int)) = False := eq_false (by omega)
     have HP2 := HP.out
     rw [List.drop_of_length_le (by have := hdc.out; omega), padsF] at HP2
     subst HP2
     rw [padsAt_to] at hQ
     go_wp2_with fail
     go_roundg (wd - (c + 1))
     case measure => have := hkq.out; omega
     case rel => exact ⟨c + 1, (by go_num), ⟨by simp⟩, by omega, ⟨hQ⟩⟩
  ·have hcc : c = wd := by omega
   subst hcc
   have hlt1 : ((c : Int) < (c : Int)) = False := eq_false (by omega)
   have c0 : wo.cell? ⟨w.heap.size, 0, none⟩ = some (.int .i64 (tapes : Int)) := (blk_cell hM.bM 0).trans rfl
   have c1 : wo.cell? ⟨w.heap.size, 1, none⟩ = some (.int .i64 (start : Int)) := (blk_cell hM.bM 1).trans rfl
   have hp0 : padsTo dig c c = (List.range c).map (padOf dig) := by simp [padsTo]
   rw [hp0] at hM
   clear hp0 hkq
   have hmach : Mach wo w.heap.size tapes start accs (rows.map ints) := ⟨AA, ca, AN, cn, by rw [List.length_map]; exact hM.bM, Kd.C_below hA hM.bel, by rw [List.length_map]; exact Kd.C_below hN hM.bel, hca, by rw [List.length_map]; exact hcn⟩
   have hnum : Nums wo w2.heap.size (ints ((List.range c).map (padOf dig))) := by
    obtain ⟨e, h1, h2⟩ := Kd.R_reads' hM.grp
    exact ⟨_, cr, by rw [← e]; exact hM.bG, h2, by rw [← e]; exact h1⟩
   have hpad : ∀ x, x < c → padOf dig x < 8 := fun x hx => padsF_lt _ _ _ (by omega) (by have := hdl x hx; omega)
   obtain ⟨f, lp, rp, f1, g, f2, l, hbf, hcs, hby, hbs⟩ := hte.out
   have hgr := grownP tapes start accs rows c hwd2 hcl hn hst hwd (padOf dig) hpad w.heap.size w2.heap.size wo hmach hnum f lp rp hbf
   have hlen := places_len (n := rows.length) hbf (.inr ⟨start, 0, hst, by omega, rfl⟩) (fun p x hp hx => met8_next hcl hpad hp hx)
   have hd := bfs_done f 0 [((start : Int), (0 : Int))] [] lp rp hbf (Nat.zero_le _) rfl (List.pairwise_singleton _ _) (fun r hr => by cases hr) (fun i hi => by cases hi)
   have hcl3 := Aside0.mk (done_closed (accP accs) hd.1)
   obtain ⟨mm, hmm⟩ := hd.2
   have hrl : rp.length = lp.length := hd.1.len
   have hr0 : 0 < rp.length := by rw [hrl, hmm, List.length_append, List.length_singleton]; omega
   have hr1 : rp.length ≤ 1000000 := by omega
   have hla : (lp.map (accP accs)).length = rp.length := by rw [List.length_map, hrl]
   have hcs2 := Aside0.mk hcs
   have hby2 := Aside0.mk hby
   have hla2 := Aside0.mk hla
   have hbs2 := Aside0.mk hbs
   have hbR := hM.bR
   have hB := hM.bel
   clear hmm hd hbf hlen hmach hnum hcs hby hrl hbs hM hla
   generalize lp.map (accP accs) = ac at *
   go_wp2_with (first
    | (go_at_call 159; go_loud (refine hgr.mono ?_; rintro e w6 ⟨vA, vN, rfl, r1, r2, hb6⟩; clear hgr; have hla3 := hla2.out; have hC1 := Kd.R_reads r1; have hC2 := Kd.R_reads r2; obtain ⟨A1, c1, rfl, hc1, hC1⟩ := hC1; obtain ⟨A2, c2, rfl, hc2, hC2⟩ := hC2; rw [List.length_map] at r2 hC2 hc2 ⊢; clear hla3; have hB7 := below_alloc (below_step hB hb6) (.cells #[.int .i64 (tapes : Int), .int .i64 0, .slice A1 ac.length c1, .slice A2 rp.length c2] 77); have bR7 := blk_alloc (blk_below hbR hb6) (.cells #[.int .i64 (tapes : Int), .int .i64 0, .slice A1 ac.length c1, .slice A2 rp.length c2] 77)))
    | (go_at_call 162; go_loud (refine Calls.mono (merged T hT GI hGI hItoa hinj tapes 0 ac rp c hwd2 hcl3.out hr1 hr0 hwd _ (hGI _ _ hG hB7) A1 c1 A2 c2 (Kd.C_below hC1 (below_alloc (Below.refl _ _) _)) (Kd.C_below hC2 (below_alloc (Below.refl _ _) _)) hc1 hc2 f1 g hcs2.out f2 l rws hby2.out) ?_; rintro e w8 ⟨vA, vN, rfl, q1, q2, hb8⟩; obtain ⟨A3, c3, rfl⟩ := Kd.R_slice q1; obtain ⟨A4, c4, rfl⟩ := Kd.R_slice q2; rw [List.length_map] at q1 q2 ⊢; rw [List.length_map]; have b0 := blk_below bR7 hb8; have e0 : w8.cell? ⟨w.heap.size + 1, 0, none⟩ = some (.int .i64 0) := (blk_cell b0 0).trans rfl; have e1 : w8.cell? ⟨w.heap.size + 1, 1, none⟩ = some (.int .i64 0) := (blk_cell b0 1).trans rfl; have e2 : w8.cell? ⟨w.heap.size + 1, 2, none⟩ = some (.slice none 0 0) := (blk_cell b0 2).trans rfl; have e3 : w8.cell? ⟨w.heap.size + 1, 3, none⟩ = some (.slice none 0 0) := (blk_cell b0 3).trans rfl; have g0 : w8.frozen? ⟨w.heap.size + 1, 0, none⟩ = false := blk_frozen b0 0; have g1 : w8.frozen? ⟨w.heap.size + 1, 1, none⟩ = false := blk_frozen b0 1; have g2 : w8.frozen? ⟨w.heap.size + 1, 2, none⟩ = false := blk_frozen b0 2; have g3 : w8.frozen? ⟨w.heap.size + 1, 3, none⟩ = false := blk_frozen b0 3)))
   have hB8 := below_step hB7 hb8
   have q3 := Kd.R_lower q1 (Below.size hB7)
   have q4 := Kd.R_lower q2 (Below.size hB7)
   have b1 := blk_put b0 0 (.int .i64 (tapes : Int)) rfl
   have b2 := blk_put b1 1 (.int .i64 0) rfl
   have b3 := blk_put b2 2 (.slice A3 l.length c3) rfl
   have b4 := blk_put b3 3 (.slice A4 rws.length c4) rfl
   refine bodyPost_ret (results_cell_row rfl _ _ (w.heap.size + 1) 77 #[.int .i64 tapes, .int .i64 0, .slice A3 l.length c3, .slice A4 rws.length c4] (0, 0) _ rfl b4 Tryd.underlying77 rfl (by kernel_rfl)) rfl ⟨_, _, rfl, ?_, ?_, ?_⟩
   ·rw [hbs2.out]
    exact Kd.R_set (Kd.R_set (Kd.R_set (Kd.R_set q3 b0 (by decide) 0 _) b1 (by decide) 1 _) b2 (by decide) 2 _) b3 (by decide) 3 _
   ·exact Kd.R_set (Kd.R_set (Kd.R_set (Kd.R_set q4 b0 (by decide) 0 _) b1 (by decide) 1 _) b2 (by decide) 2 _) b3 (by decide) 3 _
   ·exact (((hB8.setCell (by simp) _).setCell (by simp) _).setCell (by simp) _).setCell (by simp) _
end Go.Proofs.YtbamnonamdpooaaDoor.Td
namespace Go.Proofs.YtbamnonamdpooaaDoor.Mo
set_option linter.unusedVariables false
set_option linter.unusedSimpArgs false
open Go.RowKit Go.Proofs.YtbamnonamdpooaaDoorW.PrintWords Go.Proofs.YtbamnonamdpooaaDoorW.PrintLast Go.Proofs.YtbamnonamdpooaaDoorW.PrintMore Go.Proofs.YtbamnonamdpooaaDoor.Kp Go.Proofs.YtbamnonamdpooaaDoor.Cl Go.Proofs.YtbamnonamdpooaaDoor.Mg
theorem clone (W : World) (A : Option Addr) (c : Nat) (xs : List Bool) (h0 : 0 < xs.length) (hn : xs.length ≤ 1000000) (hC : Kd.C Kd.bool W A xs.length xs) :
  Calls Tryd.prog 91 #[.slice A xs.length c] W fun e W' => ∃ v, e = .returned v ∧ Kd.R Kd.bool 4 W' W.heap.size (fun _ => True) v xs ∧ Below W.heap.size W W' := by
 obtain ⟨⟨b, off, sp⟩, rfl, k0⟩ := at_mark hC 0 h0
 have hsp : sp = none := by
  unfold World.cell? Addr.add at k0
  rw [if_pos rfl] at k0
  split at k0
  ·cases sp with
   | none => rfl
   | some s => simp at k0
  ·cases k0
 subst hsp
 have hc : ∀ j u, (xs.map Value.bool)[j]? = some u → W.cell? ⟨b, off + j, none⟩ = some u := by
  intro j u hj
  obtain ⟨y, hy, rfl⟩ := List.getElem?_map .. ▸ hj |> Option.map_eq_some_iff.1
  obtain ⟨hlt, rfl⟩ := List.getElem?_eq_some_iff.1 hy
  obtain ⟨ad, e, k⟩ := at_mark hC j hlt
  cases e
  have ea : (⟨b, off, none⟩ : Addr).add j = ⟨b, off + j, none⟩ := by
   by_cases h0 : j = 0
   ·subst h0; rfl
   ·simp [Addr.add, h0]
  rw [ea] at k
  exact k
 have hi := GwI.info_bool
 obtain ⟨i0, h1, h2⟩ := Option.map_eq_some_iff.1 hi
 simp only [Prod.mk.injEq] at h2
 have h := Tryd.slices_Clone_f91 i0 (.bool false) 1 1 h1 h2.1 h2.2.1 h2.2.2 rfl (by decide) Tryd.sizeOf4 b off xs.length c (xs.map Value.bool) W (by simp) (by unfold maxLen; omega) (by omega) hc (by intro u hu; obtain ⟨y, _, rfl⟩ := List.mem_map.1 hu; rfl)
 refine Calls.mono h ?_
 rintro e W' ⟨v, rfl, ho, hne, hb⟩
 exact ⟨v, rfl, Kd.R_of_own ho (fun _ _ => trivial), hb⟩
/-- The relation that is read, and the result. -/
structure Pr (w0 : World) (a0 a1 : Int) (AA : Option Addr) (na ca : Nat) (AN : Option Addr) (nn cn : Nat) (W : World) : Prop where
 bP : W.heap[w0.heap.size]? = some (.cells #[.int .i64 a0, .int .i64 a1, .slice AA na ca, .slice AN nn cn] 29 (0, 0))
 bR : W.heap[w0.heap.size + 1]? = some (.cells #[.int .i64 0, .int .i64 0, .slice none 0 0, .slice none 0 0] 77 (0, 0))
 bel : Below w0.heap.size w0 W
section
variable {w0 : World} {a0 a1 : Int} {AA : Option Addr} {na ca : Nat} {AN : Option Addr} {nn cn : Nat} {W W' : World}
theorem Pr.step (h : Pr w0 a0 a1 AA na ca AN nn cn W) (hb : Below W.heap.size W W') : Pr w0 a0 a1 AA na ca AN nn cn W' := ⟨blk_below h.bP hb, blk_below h.bR hb, below_step h.bel hb⟩
theorem Pr.lt (h : Pr w0 a0 a1 AA na ca AN nn cn W) : w0.heap.size + 1 < W.heap.size := blk_lt h.bR
end
/-- .. and the machine that is made; x: the row that is made. -/
structure Mk (w0 : World) (a0 a1 : Int) (AA : Option Addr) (na ca : Nat) (AN : Option Addr) (nn cn : Nat) (gl : Nat) (vA : Value) (bs : List Bool) (vN : Value) (rws : List (List Int)) (x : Option Nat) (W : World) : Prop where
 p : Pr w0 a0 a1 AA na ca AN nn cn W
 bV : W.heap[gl]? = some (.cells #[.int .i64 a0, .int .i64 a1, vA, vN] 77 (0, 0))
 acc : Kd.R Kd.bool 4 W w0.heap.size (fun _ => True) vA bs
 nxt : Kd.R (Kd.slice 3 (Kd.int .i64)) 97 W w0.heap.size (fun k => True ∧ some k ≠ x) vN rws
section
variable {w0 : World} {a0 a1 : Int} {AA : Option Addr} {na ca : Nat} {AN : Option Addr} {nn cn gl : Nat} {vA vN : Value} {bs : List Bool} {rws : List (List Int)} {x : Option Nat} {W W' : World}
theorem Mk.step (h : Mk w0 a0 a1 AA na ca AN nn cn gl vA bs vN rws x W) (hb : Below W.heap.size W W') : Mk w0 a0 a1 AA na ca AN nn cn gl vA bs vN rws x W' := ⟨h.p.step hb, blk_below h.bV hb, Kd.R_below h.acc hb, Kd.R_below h.nxt hb⟩
/-- A number is put behind the row. -/
theorem Mk.more {vr v1 : Value} {r : List Int} {b : Nat} (h : Mk w0 a0 a1 AA na ca AN nn cn gl vA bs vN rws vr.ownBlock W) (hr : Kd.R (Kd.int .i64) 3 W b (fun _ => True) vr r) (hg : W.grownBy W' vr.ownBlock) (hat : v1.ownBlock = vr.ownBlock ∨ ∃ b, v1.ownBlock = some b ∧ W.heap.size ≤ b) (hb : Below w0.heap.size w0 W') : Mk w0 a0 a1 AA na ca AN nn cn gl vA bs vN rws v1.ownBlock W' := by
 have hk := Keep.grown hg
 have o : ∀ E : List Nat, (∀ q ∈ E, q ≠ 3) → Off W vr.ownBlock E := fun E hE => Off.row hr hE
 exact ⟨⟨hk.obj h.p.bP (off_ne h.p.bP (o _ (by decide))), hk.obj h.p.bR (off_ne h.p.bR (o _ (by decide))), hb⟩, hk.obj h.bV (off_ne h.bV (o _ (by decide))), R_off h.acc hk (o _ (by decide)), Kd.R_after h.nxt hg hat⟩
/-- The row is put behind the others. -/
theorem Mk.push {v1 : Value} {rws' : List (List Int)} (h : Mk w0 a0 a1 AA na ca AN nn cn gl vA bs vN rws x W) (hg : W.grownBy W' vN.ownBlock) (hR : Kd.R (Kd.slice 3 (Kd.int .i64)) 97 W' w0.heap.size (fun _ => True) v1 rws') (hb : Below w0.heap.size w0 W') (hgl : w0.heap.size + 1 < gl) :
  W'.heap[gl]? = some (.cells #[.int .i64 a0, .int .i64 a1, vA, vN] 77 (0, 0)) ∧ Mk w0 a0 a1 AA na ca AN nn cn gl vA bs v1 rws' none (W'.setCell ⟨gl, 3, none⟩ v1) := by
 have hk := Keep.grown hg
 have o : ∀ E : List Nat, (∀ q ∈ E, q ≠ 97) → Off W vN.ownBlock E := fun E hE => Off.row h.nxt hE
 have bV := hk.obj h.bV (off_ne h.bV (o _ (by decide)))
 refine ⟨bV, ?_⟩
 have hs := Keep.set W' ⟨gl, 3, none⟩ v1
 have p : ∀ E : List Nat, (∀ q ∈ E, q ≠ 77) → Off W' (some gl) E := fun E hE => Off.cells bV hE
 have n0 : some w0.heap.size ≠ some gl := fun e => by injection e; omega
 have n1 : some (w0.heap.size + 1) ≠ some gl := fun e => by injection e; omega
 exact ⟨⟨hs.obj (hk.obj h.p.bP (off_ne h.p.bP (o _ (by decide)))) n0, hs.obj (hk.obj h.p.bR (off_ne h.p.bR (o _ (by decide)))) n1, hb.setCell (p := ⟨gl, 3, none⟩) (by simp only; omega) v1⟩, blk_put bV 3 v1 rfl, R_off (R_off h.acc hk (o _ (by decide))) hs (p _ (by decide)), Kd.R_mono (R_off hR hs (p _ (by decide))) (fun _ _ => ⟨trivial, by simp⟩)⟩
end
set_option maxHeartbeats 8000000 in
set_option maxRecDepth 100000 in
theorem machineOf (a0 a1 : Int) (accs : List Bool) (rows : List (List Int)) (h0 : 0 < accs.length) (hn : accs.length ≤ 1000000) (hn2 : rows.length ≤ 1000000) (hn3 : ∀ r ∈ rows, r.length ≤ 1000000) (w : World) (AA : Option Addr) (ca : Nat) (AN : Option Addr) (cn : Nat) (hA : Kd.C Kd.bool w AA accs.length accs) (hca : accs.length ≤ ca) (hN : Kd.C (Kd.slice 2 (Kd.int .i64)) w AN rows.length rows) (hcn : rows.length ≤ cn) :
  Calls Tryd.prog 113 #[.agg #[.int .i64 a0, .int .i64 a1, .slice AA accs.length ca, .slice AN rows.length cn]] w fun e w' => ∃ vA vN, e = .returned (.agg #[.int .i64 a0, .int .i64 a1, vA, vN]) ∧
   Kd.R Kd.bool 4 w' w.heap.size (fun _ => True) vA accs ∧ Kd.R (Kd.slice 3 (Kd.int .i64)) 97 w' w.heap.size (fun _ => True) vN rows ∧ Below w.heap.size w w' := by
 go_enter Tryd.func113, Tryd.ntmps113
 go_wp2
 have hP : Pr w a0 a1 AA accs.length ca AN rows.length cn ((w.alloc (.cells #[.int .i64 a0, .int .i64 a1, .slice AA accs.length ca, .slice AN rows.length cn] 29)).alloc (.cells #[.int .i64 0, .int .i64 0, .slice none 0 0, .slice none 0 0] 77)) :=
  ⟨blk_alloc (blk_new _ _) _, blk_at _ _ _ (by simp), below_alloc (below_alloc (Below.refl _ _) _) _⟩
 have hPd := hP.step (below_drew1 (Below.refl _ _))
 clear hP
 generalize hwd : (w.alloc (.cells #[.int .i64 a0, .int .i64 a1, .slice AA accs.length ca, .slice AN rows.length cn] 29)).alloc (.cells #[.int .i64 0, .int .i64 0, .slice none 0 0, .slice none 0 0] 77) = wd at *
 have hSS : ∀ W', Pr w a0 a1 AA accs.length ca AN rows.length cn W' → (fun w' => w'.cell? ⟨w.heap.size, 0, none⟩ = some (.int .i64 a0) ∧ w'.cell? ⟨w.heap.size, 1, none⟩ = some (.int .i64 a1) ∧ w'.cell? ⟨w.heap.size, 2, none⟩ = some (.slice AA accs.length ca)) W' := fun W' h => ⟨(blk_cell h.bP 0).trans rfl, (blk_cell h.bP 1).trans rfl, (blk_cell h.bP 2).trans rfl⟩
 refine start_ (n := 10) (S := fun w' => w'.cell? ⟨w.heap.size, 0, none⟩ = some (.int .i64 a0) ∧ w'.cell? ⟨w.heap.size, 1, none⟩ = some (.int .i64 a1) ∧ w'.cell? ⟨w.heap.size, 2, none⟩ = some (.slice AA accs.length ca)) (ds := [9]) #[false, false, false, false, false, false, false, false, false, false] (by kernel_rfl) rfl rfl (hSS _ hPd) (fun hHeld => ?_)
 refine pure_ (i := 0) (N := some 9) (v := ?_) (a' := ?_) #[true, false, false, false, false, false, false, false, false, false] rfl rfl (by kernel_rfl) (fun _ _ _ h => h) (Or.inl ⟨by rfl, ?_⟩) ?_ ?_
 rotate_left
 ·intro w'
  go_simp
  with_reducible rfl
 rotate_left
 ·simp only [Act.put, List.setIfInBounds_toArray, List.set_cons_zero, List.set_cons_succ, i64_w, i32_w]
  rfl
 refine pure_ (i := 2) (N := some 11) (v := ?_) (a' := ?_) #[true, false, true, false, false, false, false, false, false, false] rfl rfl (by kernel_rfl) (fun _ _ _ h => h) (Or.inl ⟨by rfl, ?_⟩) ?_ ?_
 rotate_left
 ·intro w'
  go_simp
  with_reducible rfl
 rotate_left
 ·simp only [Act.put, List.setIfInBounds_toArray, List.set_cons_zero, List.set_cons_succ, i64_w, i32_w]
  rfl
 refine pure_ (i := 4) (N := some 13) (v := ?_) (a' := ?_) #[true, false, true, false, true, false, false, false, false, false] rfl rfl (by kernel_rfl) (fun _ _ _ h => h) (Or.inl ⟨by rfl, ?_⟩) ?_ ?_
 rotate_left
 ·intro w'
  go_simp
  with_reducible rfl
 rotate_left
 ·simp only [Act.put, List.setIfInBounds_toArray, List.set_cons_zero, List.set_cons_succ, i64_w, i32_w]
  rfl
 refine take_ (i := 1) (N := some 10) (v := ?_) (a' := ?_) #[true, true, true, false, true, false, false, false, false, false] rfl rfl (by kernel_rfl) (fun _ _ _ h => h) (Or.inl ⟨by rfl, ?_⟩) hHeld ?_ ?_
 rotate_left
 ·rintro w' ⟨s1, s2, s3⟩
  go_simp
  with_reducible rfl
 rotate_left
 ·simp only [Act.put, List.setIfInBounds_toArray, List.set_cons_zero, List.set_cons_succ, i64_w, i32_w]
  rfl
 refine take_ (i := 3) (N := some 12) (v := ?_) (a' := ?_) #[true, true, true, true, true, false, false, false, false, false] rfl rfl (by kernel_rfl) (fun _ _ _ h => h) (Or.inl ⟨by rfl, ?_⟩) hHeld ?_ ?_
 rotate_left
 ·rintro w' ⟨s1, s2, s3⟩
  go_simp
  with_reducible rfl
 rotate_left
 ·simp only [Act.put, List.setIfInBounds_toArray, List.set_cons_zero, List.set_cons_succ, i64_w, i32_w]
  rfl
 refine take_ (i := 5) (N := some 14) (v := ?_) (a' := ?_) #[true, true, true, true, true, true, false, false, false, false] rfl rfl (by kernel_rfl) (fun _ _ _ h => h) (Or.inl ⟨by rfl, ?_⟩) hHeld ?_ ?_
 rotate_left
 ·rintro w' ⟨s1, s2, s3⟩
  go_simp
  with_reducible rfl
 rotate_left
 ·simp only [Act.put, List.setIfInBounds_toArray, List.set_cons_zero, List.set_cons_succ, i64_w, i32_w]
  rfl
 refine join_ (σ := Value × Nat) 1 #[true, true, true, true, true, true, true, true, true, false] (fun s => [(15, s.1), (16, .agg #[.int .i64 a0, .int .i64 a1, s.1, .slice none 0 0]), (3, .pointer (some ⟨s.2, 0, none⟩))])
  (fun s w' => Pr w a0 a1 AA accs.length ca AN rows.length cn w' ∧ Kd.R Kd.bool 4 w' w.heap.size (fun _ => True) s.1 accs ∧ w'.heap[s.2]? = some (.cells #[.int .i64 0, .int .i64 0, .slice none 0 0, .slice none 0 0] 77 (0, 0)) ∧ w.heap.size + 1 < s.2) ?_ ?_
 rotate_left
 ·intro hCont
  refine two_ (i := 6) (j := 8) (Ni := some 15) (Nj := some 3) #[true, true, true, true, true, true, true, false, false, false] #[true, true, true, true, true, true, false, false, true, false] rfl rfl rfl rfl (by kernel_rfl) (by decide) (by decide) (fun K hK => ?_) (fun K hK => ?_)
  ·skip
   refine goes_ Tryd.func91 (by kernel_rfl) rfl #[.slice AA accs.length ca] (by rfl) rfl rfl (by (try simp only [List.map_toArray, List.map_cons, List.map_nil]); first | done | rfl) ?_
   with_reducible refine (clone _ AA ca accs h0 hn (Kd.C_below hA hPd.bel)).mono ?_
   rintro e w6 ⟨vA, rfl, r1, hb6⟩
   refine ⟨_, rfl, ?_⟩
   have h6 := hPd.step hb6
   have q1 := Kd.R_lower r1 (Below.size hPd.bel)
   obtain ⟨A1, c1, rfl⟩ := Kd.R_slice q1
   refine hK.out _ _ (hSS _ h6) (fun hHeld => ?_)
   clear hK K
   refine norm_ (a' := ?_) ?_ ?_
   rotate_left
   ·show Act.put _ (some 15) _ = _
    simp only [Act.put, List.setIfInBounds_toArray, List.set_cons_zero, List.set_cons_succ, i64_w, i32_w]
    rfl
   refine pure_ (i := 7) (N := some 16) (v := ?_) (a' := ?_) #[true, true, true, true, true, true, true, true, false, false] rfl rfl (by kernel_rfl) (fun _ _ _ h => h) (Or.inl ⟨by rfl, ?_⟩) ?_ ?_
   rotate_left
   ·intro w'
    go_simp
    with_reducible rfl
   rotate_left
   ·simp only [Act.put, List.setIfInBounds_toArray, List.set_cons_zero, List.set_cons_succ, i64_w, i32_w]
    rfl
   refine one_ (i := 8) (N := some 3) #[true, true, true, true, true, true, true, true, true, false] rfl rfl (by kernel_rfl) (by decide) (fun K hK => ?_)
   refine value_ (w1 := w6.alloc (.cells #[.int .i64 0, .int .i64 0, .slice none 0 0, .slice none 0 0] 77)) (v := .pointer (some ⟨w6.heap.size, 0, none⟩)) (by rfl) rfl (by first | (go_simp; done) | (go_simp; rfl)) ?_
   have h7 := h6.step (below_alloc (Below.refl _ _) (.cells #[.int .i64 0, .int .i64 0, .slice none 0 0, .slice none 0 0] 77))
   refine hK.out _ _ (hSS _ h7) (fun hHeld => ?_)
   clear hK K
   refine norm_ (a' := ?_) ?_ ?_
   rotate_left
   ·show Act.put _ (some 3) _ = _
    simp only [Act.put, List.setIfInBounds_toArray, List.set_cons_zero, List.set_cons_succ, i64_w, i32_w]
    rfl
   exact norm_ (by simp only [putAll, Act.put, List.setIfInBounds_toArray, List.set_cons_zero, List.set_cons_succ]) (hCont (.slice A1 accs.length c1, w6.heap.size) _ ⟨h7, Kd.R_below q1 (below_alloc (Below.refl _ _) _), blk_new _ _, h6.lt⟩)
  ·skip
   refine value_ (w1 := wd.drew.alloc (.cells #[.int .i64 0, .int .i64 0, .slice none 0 0, .slice none 0 0] 77)) (v := .pointer (some ⟨wd.drew.heap.size, 0, none⟩)) (by rfl) rfl (by first | (go_simp; done) | (go_simp; rfl)) ?_
   have h6 := hPd.step (below_alloc (Below.refl _ _) (.cells #[.int .i64 0, .int .i64 0, .slice none 0 0, .slice none 0 0] 77))
   refine hK.out _ _ (hSS _ h6) (fun hHeld => ?_)
   clear hK K
   refine norm_ (a' := ?_) ?_ ?_
   rotate_left
   ·show Act.put _ (some 3) _ = _
    simp only [Act.put, List.setIfInBounds_toArray, List.set_cons_zero, List.set_cons_succ, i64_w, i32_w]
    rfl
   refine one_ (i := 6) (N := some 15) #[true, true, true, true, true, true, true, false, true, false] rfl rfl (by kernel_rfl) (by decide) (fun K hK => ?_)
   refine goes_ Tryd.func91 (by kernel_rfl) rfl #[.slice AA accs.length ca] (by rfl) rfl rfl (by (try simp only [List.map_toArray, List.map_cons, List.map_nil]); first | done | rfl) ?_
   with_reducible refine (clone _ AA ca accs h0 hn (Kd.C_below hA h6.bel)).mono ?_
   rintro e w7 ⟨vA, rfl, r1, hb6⟩
   refine ⟨_, rfl, ?_⟩
   have h7 := h6.step hb6
   have q1 := Kd.R_lower r1 (Below.size h6.bel)
   obtain ⟨A1, c1, rfl⟩ := Kd.R_slice q1
   refine hK.out _ _ (hSS _ h7) (fun hHeld => ?_)
   clear hK K
   refine norm_ (a' := ?_) ?_ ?_
   rotate_left
   ·show Act.put _ (some 15) _ = _
    simp only [Act.put, List.setIfInBounds_toArray, List.set_cons_zero, List.set_cons_succ, i64_w, i32_w]
    rfl
   refine pure_ (i := 7) (N := some 16) (v := ?_) (a' := ?_) #[true, true, true, true, true, true, true, true, true, false] rfl rfl (by kernel_rfl) (fun _ _ _ h => h) (Or.inl ⟨by rfl, ?_⟩) ?_ ?_
   rotate_left
   ·intro w'
    go_simp
    with_reducible rfl
   rotate_left
   ·simp only [Act.put, List.setIfInBounds_toArray, List.set_cons_zero, List.set_cons_succ, i64_w, i32_w]
    rfl
   exact norm_ (by simp only [putAll, Act.put, List.setIfInBounds_toArray, List.set_cons_zero, List.set_cons_succ]) (hCont (.slice A1 accs.length c1, wd.drew.heap.size) _ ⟨h7, q1, blk_below (blk_new _ _) hb6, hPd.lt⟩)
 rintro ⟨vA, gl⟩ w8 ⟨h8, r1, b0, hgl⟩
 dsimp only at r1 b0 hgl ⊢
 obtain ⟨A1, c1, rfl⟩ := Kd.R_slice r1
 refine norm_ (a' := ?_) ?_ ?_
 rotate_left
 ·simp only [putAll, Act.put, List.setIfInBounds_toArray, List.set_cons_zero, List.set_cons_succ, i64_w, i32_w]
  rfl
 have e0 : w8.cell? ⟨gl, 0, none⟩ = some (.int .i64 0) := (blk_cell b0 0).trans rfl
 have f0 : w8.frozen? ⟨gl, 0, none⟩ = false := blk_frozen b0 0
 have e1 : w8.cell? ⟨gl, 1, none⟩ = some (.int .i64 0) := (blk_cell b0 1).trans rfl
 have f1 : w8.frozen? ⟨gl, 1, none⟩ = false := blk_frozen b0 1
 have e2 : w8.cell? ⟨gl, 2, none⟩ = some (.slice none 0 0) := (blk_cell b0 2).trans rfl
 have f2 : w8.frozen? ⟨gl, 2, none⟩ = false := blk_frozen b0 2
 have e3 : w8.cell? ⟨gl, 3, none⟩ = some (.slice none 0 0) := (blk_cell b0 3).trans rfl
 have f3 : w8.frozen? ⟨gl, 3, none⟩ = false := blk_frozen b0 3
 refine last_ (i := 9) (N := none) #[true, true, true, true, true, true, true, true, true, true] rfl rfl (by kernel_rfl) (by decide) (fun K hK => ?_)
 refine skip_ (w1 := (((w8.setCell ⟨gl, 0, none⟩ (.int .i64 a0)).setCell ⟨gl, 1, none⟩ (.int .i64 a1)).setCell ⟨gl, 2, none⟩ (.slice A1 accs.length c1)).setCell ⟨gl, 3, none⟩ (.slice none 0 0)) (by rfl) rfl (by first | (go_simp; done) | (go_simp; rfl)) ?_
 refine hK.out _ _ ?_
 clear hK K
 refine done_ (by kernel_rfl) ?_
 have hgg : w.heap.size ≤ gl := by omega
 have n0 : some w.heap.size ≠ some gl := fun e => by injection e; omega
 have n1 : some (w.heap.size + 1) ≠ some gl := fun e => by injection e; omega
 have b1 := blk_put b0 0 (.int .i64 a0) rfl
 have b2 := blk_put b1 1 (.int .i64 a1) rfl
 have b3 := blk_put b2 2 (.slice A1 accs.length c1) rfl
 have b4 := blk_put b3 3 (.slice none 0 0) rfl
 have q1 := Kd.R_set (Kd.R_set (Kd.R_set (Kd.R_set r1 b0 (by decide) 0 (.int .i64 a0)) b1 (by decide) 1 (.int .i64 a1)) b2 (by decide) 2 (.slice A1 accs.length c1)) b3 (by decide) 3 (.slice none 0 0)
 have hB := (((h8.bel.setCell (p := ⟨gl, 0, none⟩) hgg (.int .i64 a0)).setCell (p := ⟨gl, 1, none⟩) hgg (.int .i64 a1)).setCell (p := ⟨gl, 2, none⟩) hgg (.slice A1 accs.length c1)).setCell (p := ⟨gl, 3, none⟩) hgg (.slice none 0 0)
 have bP := (Keep.set _ ⟨gl, 3, none⟩ (.slice none 0 0)).obj ((Keep.set _ ⟨gl, 2, none⟩ (.slice A1 accs.length c1)).obj ((Keep.set _ ⟨gl, 1, none⟩ (.int .i64 a1)).obj ((Keep.set _ ⟨gl, 0, none⟩ (.int .i64 a0)).obj h8.bP n0) n0) n0) n0
 have bR := (Keep.set _ ⟨gl, 3, none⟩ (.slice none 0 0)).obj ((Keep.set _ ⟨gl, 2, none⟩ (.slice A1 accs.length c1)).obj ((Keep.set _ ⟨gl, 1, none⟩ (.int .i64 a1)).obj ((Keep.set _ ⟨gl, 0, none⟩ (.int .i64 a0)).obj h8.bR n1) n1) n1) n1
 clear b0 b1 b2 b3 r1 e0 e1 e2 e3 f0 f1 f2 f3 h8 hSS hPd n0 n1
 generalize ((((w8.setCell ⟨gl, 0, none⟩ (.int .i64 a0)).setCell ⟨gl, 1, none⟩ (.int .i64 a1)).setCell ⟨gl, 2, none⟩ (.slice A1 accs.length c1)).setCell ⟨gl, 3, none⟩ (.slice none 0 0)) = w9 at *
 have hM : Mk w a0 a1 AA accs.length ca AN rows.length cn gl (.slice A1 accs.length c1) accs (.slice none 0 0) [] none w9 := ⟨⟨bP, bR, hB⟩, b4, q1, Kd.R_nil _ _ _ _ _⟩
 have c3 : w9.cell? ⟨w.heap.size, 3, none⟩ = some (.slice AN rows.length cn) := (blk_cell bP 3).trans rfl
 clear bP bR hB b4 q1
 go_wp2
 clear c3
 go_loopg [20] rows.length (fun kq v20 wr => ∃ (i : Nat) (A2 : Option Addr) (c2 : Nat), v20 = .int .i64 (i : Int) ∧ Aside0 (kq = rows.length - i) ∧ i ≤ rows.length ∧ Aside0 (Mk w a0 a1 AA accs.length ca AN rows.length cn gl (.slice A1 accs.length c1) accs (.slice A2 i c2) (rows.take i) none wr))
 case atStart => exact ⟨0, none, 0, rfl, ⟨by simp⟩, Nat.zero_le _, ⟨hM⟩⟩
 case round =>
  clear hM
  obtain ⟨wo, rfl⟩ : ∃ wo : World, wo = wr := ⟨_, rfl⟩
  obtain ⟨i, A2, c2, rfl, hkq, hil, hM⟩ := hrel
  replace hM := hM.out
  by_cases hlt : i < rows.length
  ·obtain ⟨ad, rfl, A', c', k1, k2, k3⟩ := at_row (Kd.C_below hN hM.p.bel) i hlt
   have hrl : rows[i].length ≤ 1000000 := hn3 _ (List.getElem_mem hlt)
   have htk : rows.take (i + 1) = rows.take i ++ [rows[i]] := List.take_succ_eq_append_getElem hlt
   have htk2 := Aside0.mk htk
   clear htk
   generalize rows[i] = ri at *
   have hlt1 : ((i : Int) < (rows.length : Int)) = True := eq_true (by omega)
   have h0i : (0 ≤ (i : Int)) = True := eq_true (by omega)
   go_wp2_with fail
   go_loopg [6, 26] ri.length (fun kq v6 v26 wq => ∃ (j : Nat) (Ar : Option Addr) (cr : Nat), v6 = .slice Ar j cr ∧ v26 = .int .i64 (j : Int) ∧ Aside0 (kq = ri.length - j) ∧ j ≤ ri.length ∧ Aside0 (Below wo.heap.size wo wq) ∧ Aside0 (Kd.R (Kd.int .i64) 3 wq wo.heap.size (fun _ => True) (.slice Ar j cr) (ri.take j)) ∧ Aside0 (Mk w a0 a1 AA accs.length ca (some ad) rows.length cn gl (.slice A1 accs.length c1) accs (.slice A2 i c2) (rows.take i) (Value.slice Ar j cr).ownBlock wq))
   case atStart => exact ⟨0, none, 0, rfl, rfl, ⟨by simp⟩, Nat.zero_le _, ⟨Below.refl _ _⟩, ⟨Kd.R_nil _ _ _ _ _⟩, ⟨hM⟩⟩
   case round =>
    obtain ⟨j, Ar, cr, rfl, rfl, hkj, hjl, hbq, hr, hQ⟩ := hrel
    replace hr := hr.out
    replace hQ := hQ.out
    by_cases hjt : j < ri.length
    ·obtain ⟨a2, rfl, m1⟩ := at_num (Kd.C_below k3 hbq.out) j hjt
     have htj : ri.take (j + 1) = ri.take j ++ [ri[j]] := List.take_succ_eq_append_getElem hjt
     have htj2 := Aside0.mk htj
     have hjl2 : Aside0 ((ri.take j).length = j) := ⟨by rw [List.length_take]; omega⟩
     clear htj
     generalize ri[j] = y at *
     have hlt2 : ((j : Int) < (ri.length : Int)) = True := eq_true (by omega)
     have h0j : (0 ≤ (j : Int)) = True := eq_true (by omega)
     go_wp2_with ((with_reducible refine gate_builtin (b := .append) (xs := #[.tmp 30, .tmp 32]) rfl ?_); go_loud (at_builtin; refine R_append' (Kd.int .i64) (w0 := wo) wo.heap.size rfl (.tmp 30) (.tmp 32) 97 3 (.int .i64 0) 8 rfl Tryd.underlying97 GwI.info_int rfl (by decide) (by decide) (.slice Ar j cr) (ri.take j) y [.int .i64 y] (fun _ => True) (fun _ => False) _ (by simp) rfl rfl rfl (fun _ h => h.elim) (fun _ _ => trivial) hr hbq.out (Below.size hbq.out) (by have := hjl2.out; omega) ?_; intro v6 w6 hR6 hb6 hg6 hat6; obtain ⟨A6, c6, hv6⟩ := Kd.R_slice hR6; have ev : (ri.take j ++ [y]).length = j + 1 := (by rw [List.length_append, hjl2.out]; rfl); rw [ev] at hv6; subst hv6; have h6 := hQ.more hr hg6 hat6 (below_step hM.p.bel hb6)))
     go_roundg (ri.length - (j + 1))
     case measure => have := hkj.out; omega
     case rel => exact ⟨j + 1, A6, c6, rfl, (by go_num), ⟨by simp⟩, by omega, ⟨hb6⟩, ⟨by rw [htj2.out]; exact hR6⟩, ⟨h6⟩⟩
    ·have hjj : j = ri.length := by omega
     subst j
     have hlt2 : ((ri.length : Int) < (ri.length : Int)) = False := eq_false (by omega)
     rw [List.take_length] at hr
     have cV : wr.cell? ⟨gl, 3, none⟩ = some (.slice A2 i c2) := (blk_cell hQ.bV 3).trans rfl
     have hil2 : Aside0 ((rows.take i).length = i) := ⟨by rw [List.length_take]; omega⟩
     go_wp2_with ((with_reducible refine gate_builtin (b := .append) (xs := #[.tmp 36, .tmp 38]) rfl ?_); go_loud (at_builtin; refine R_append' (Kd.slice 3 (Kd.int .i64)) (w0 := w) w.heap.size rfl (.tmp 36) (.tmp 38) 75 97 (.slice none 0 0) 24 rfl Tryd.underlying75 GwI.info_ints rfl (by decide) (by decide) (.slice A2 i c2) (rows.take i) ri [.slice Ar ri.length cr] (fun _ => True) (fun k => True ∧ some k ≠ (Value.slice A2 i c2).ownBlock) _ (by simp) rfl rfl (Kd.M_row (R_typed (Kd.R_lower hr (Below.size hM.p.bel)) hQ.nxt (by decide))) (fun _ hk => hk) (fun _ _ => trivial) (Kd.R_mono hQ.nxt (fun _ _ => trivial)) hQ.p.bel (Below.size hQ.p.bel) (by have := hil2.out; omega) ?_; intro v8 w8 hR8 hb8 hg8 hat8; obtain ⟨A8, c8, hv8⟩ := Kd.R_slice hR8; have ev8 : (rows.take i ++ [ri]).length = i + 1 := (by rw [List.length_append, hil2.out]; rfl); rw [ev8] at hv8; subst hv8; obtain ⟨b8, h9⟩ := hQ.push hg8 hR8 hb8 hgl; have c83 : w8.cell? ⟨gl, 3, none⟩ = some (.slice A2 i c2) := (blk_cell b8 3).trans rfl; have f83 : w8.frozen? ⟨gl, 3, none⟩ = false := blk_frozen b8 3))
     go_roundg (rows.length - (i + 1))
     case measure => have := hkq.out; omega
     case rel => exact ⟨i + 1, A8, c8, (by go_num), ⟨by simp⟩, by omega, ⟨by rw [htk2.out]; exact h9⟩⟩
  ·have hii : i = rows.length := by omega
   subst i
   have hlt1 : ((rows.length : Int) < (rows.length : Int)) = False := eq_false (by omega)
   rw [List.take_length] at hM
   have bV := hM.bV
   have d0 : wo.cell? ⟨gl, 0, none⟩ = some (.int .i64 a0) := (blk_cell bV 0).trans rfl
   have d1 : wo.cell? ⟨gl, 1, none⟩ = some (.int .i64 a1) := (blk_cell bV 1).trans rfl
   have d2 : wo.cell? ⟨gl, 2, none⟩ = some (.slice A1 accs.length c1) := (blk_cell bV 2).trans rfl
   have d3 : wo.cell? ⟨gl, 3, none⟩ = some (.slice A2 rows.length c2) := (blk_cell bV 3).trans rfl
   have b := hM.p.bR
   have e0 : wo.cell? ⟨w.heap.size + 1, 0, none⟩ = some (.int .i64 0) := (blk_cell b 0).trans rfl
   have e1 : wo.cell? ⟨w.heap.size + 1, 1, none⟩ = some (.int .i64 0) := (blk_cell b 1).trans rfl
   have e2 : wo.cell? ⟨w.heap.size + 1, 2, none⟩ = some (.slice none 0 0) := (blk_cell b 2).trans rfl
   have e3 : wo.cell? ⟨w.heap.size + 1, 3, none⟩ = some (.slice none 0 0) := (blk_cell b 3).trans rfl
   have f0 : wo.frozen? ⟨w.heap.size + 1, 0, none⟩ = false := blk_frozen b 0
   have f1 : wo.frozen? ⟨w.heap.size + 1, 1, none⟩ = false := blk_frozen b 1
   have f2 : wo.frozen? ⟨w.heap.size + 1, 2, none⟩ = false := blk_frozen b 2
   have f3 : wo.frozen? ⟨w.heap.size + 1, 3, none⟩ = false := blk_frozen b 3
   go_wp2_with fail
   have b1 := blk_put b 0 (.int .i64 a0) rfl
   have b2 := blk_put b1 1 (.int .i64 a1) rfl
   have b3 := blk_put b2 2 (.slice A1 accs.length c1) rfl
   have b5 := blk_put b3 3 (.slice A2 rows.length c2) rfl
   refine bodyPost_ret (results_cell_row rfl _ _ (w.heap.size + 1) 77 #[.int .i64 a0, .int .i64 a1, .slice A1 accs.length c1, .slice A2 rows.length c2] (0, 0) _ rfl b5 Tryd.underlying77 rfl (by kernel_rfl)) rfl ⟨_, _, rfl, ?_, ?_, ?_⟩
   ·exact Kd.R_set (Kd.R_set (Kd.R_set (Kd.R_set hM.acc b (by decide) 0 _) b1 (by decide) 1 _) b2 (by decide) 2 _) b3 (by decide) 3 _
   ·exact Kd.R_mono (Kd.R_set (Kd.R_set (Kd.R_set (Kd.R_set hM.nxt b (by decide) 0 _) b1 (by decide) 1 _) b2 (by decide) 2 _) b3 (by decide) 3 _) (fun _ _ => trivial)
   ·exact (((hM.p.bel.setCell (by simp) _).setCell (by simp) _).setCell (by simp) _).setCell (by simp) _
end Go.Proofs.YtbamnonamdpooaaDoor.Mo
namespace Go.Proofs.YtbamnonamdpooaaDoor.Rg
set_option linter.unusedVariables false
set_option linter.unusedSimpArgs false
open Go.RowKit Go.Proofs.YtbamnonamdpooaaDoorW.PrintWords Go.Proofs.YtbamnonamdpooaaDoorW.PrintLast Go.Proofs.YtbamnonamdpooaaDoorW.PrintMore Go.Proofs.YtbamnonamdpooaaDoor.Mp Go.Proofs.YtbamnonamdpooaaDoor.Kp Go.Proofs.YtbamnonamdpooaaDoor.Mg Go.Proofs.YtbamnonamdpooaaDoor.Tdy
/-- The next state and tapes; none where a tape that has ended goes on. -/
def nxR (rows : List (List Nat)) (size : Nat) (en : Nat → Nat → Option Nat) (x c : Nat) : Option Nat := (en (x % size) c).map (fun e => ((rows.getD (x / size) []).getD c 0) * size + e)
def enI (en : Nat → Nat → Option Nat) (e c : Nat) : Int := match en e c with
 | none => -1
 | some e' => (e' : Int)
theorem w_pow {tapes size : Nat} (hsz : 2 ^ tapes = size) (h : size ≤ 8) : wrap64 ((2 : Int) ^ tapes) = (size : Int) := by
 have e : ((2 : Int) ^ tapes) = (size : Int) := by rw [← hsz]; simp
 rw [e]
 unfold wrap64
 omega
theorem w_mul {a size n : Nat} (hn : a * size = n) (h : n ≤ 800000) : wrap64 ((a : Int) * (size : Int)) = (n : Int) := by
 have e : ((a : Int) * (size : Int)) = (n : Int) := by rw [← hn]; simp
 rw [e]
 unfold wrap64
 omega
theorem w_div {x size : Nat} (h : x / size ≤ 1000000) : wrap64 ((x : Int) / (size : Int)) = ((x / size : Nat) : Int) := by
 rw [← Int.natCast_ediv]
 generalize x / size = q at *
 unfold wrap64
 omega
theorem w_nat {n : Nat} (h : n ≤ 1000000) : wrap64 (n : Int) = (n : Int) := by
 unfold wrap64
 omega
theorem w_add {a b : Nat} (h : a + b ≤ 1000000) : wrap64 ((a : Int) + (b : Int)) = ((a + b : Nat) : Int) := by
 rw [← Int.natCast_add]
 exact w_nat h
theorem y_lt {y n size N e : Nat} (hy : y < n) (hN : n * size = N) (he : e < size) : y * size + e < N := by
 have h : (y + 1) * size ≤ n * size := Nat.mul_le_mul_right _ hy
 rw [Nat.succ_mul, hN] at h
 omega
theorem size_le {tapes size : Nat} (htp : tapes ≤ 3) (hsz : 2 ^ tapes = size) : 0 < size ∧ size ≤ 8 := by
 have : tapes = 0 ∨ tapes = 1 ∨ tapes = 2 ∨ tapes = 3 := by omega
 rcases this with rfl | rfl | rfl | rfl <;> simp at hsz <;> omega
theorem cut_lt {a b n size : Nat} (h : a < b) (hn : b * size = n) (h0 : 0 < size) : a * size < n := by
 rw [← hn]
 exact Nat.mul_lt_mul_of_pos_right h h0
theorem info_longs : (Tryd.prog.info? 86).map (fun i => (i.zero, i.size, i.bytes)) = some (some (.slice none 0 0), 1, 24) := by kernel_rfl
theorem info_long : (Tryd.prog.info? 2).map (fun i => (i.zero, i.size, i.bytes)) = some (some (.int .i64 0), 1, 8) := by kernel_rfl
set_option maxHeartbeats 8000000 in
set_option maxRecDepth 100000 in
theorem right (tapes : Nat) (htp : tapes ≤ 3) (size : Nat) (hsz : 2 ^ tapes = size) (start : Nat) (accs : List Bool) (rows : List (List Nat)) (wd : Nat) (hwd1 : 0 < wd) (hwd2 : wd ≤ 30) (hcl : Closed wd rows accs) (hn : rows.length ≤ 100000) (hst : start < rows.length)
  (en : Nat → Nat → Option Nat) (hen : ∀ e c e', e < size → c < wd → en e c = some e' → e' < size)
  (hwide : ∀ W, Calls Tryd.prog 60 #[.int .i64 tapes] W fun e W' => e = .returned (.int .i64 wd) ∧ Below W.heap.size W W')
  (hended : ∀ W e c, e < size → c < wd → Calls Tryd.prog 157 #[.int .i64 tapes, .int .i64 (e : Int), .int .i64 (c : Int)] W fun r W' => r = .returned (.int .i64 (enI en e c)) ∧ Below W.heap.size W W')
  (w : World) (gp : Nat) (AA : Option Addr) (ca : Nat) (AN : Option Addr) (cn : Nat) (hP : w.heap[gp]? = some (.cells #[.int .i64 tapes, .int .i64 start, .slice AA accs.length ca, .slice AN rows.length cn] 29 (0, 0)))
  (hA : Kd.C Kd.bool w AA accs.length accs) (hN : Kd.C (Kd.slice 2 (Kd.int .i64)) w AN rows.length (rows.map ints)) :
  Calls Tryd.prog 108 #[.pointer (some ⟨gp, 0, none⟩)] w fun e w' => ∃ (vA vN : Value) (li : List Nat) (rws : List (List Int)), e = .returned (.agg #[.int .i64 tapes, .int .i64 0, vA, vN]) ∧
   Kd.R Kd.bool 4 w' w.heap.size (fun _ => True) vA (li.map (fun x => accs.getD (x / size) false) ++ [false]) ∧ Kd.R (Kd.slice 2 (Kd.int .i64)) 86 w' w.heap.size (fun _ => True) vN (fixTo li.length li.length rws ++ [List.replicate wd (li.length : Int)]) ∧
   li[0]? = some (start * size) ∧ rws.length = li.length ∧ (∀ r ∈ rws, r.length = wd) ∧ (∀ (k x : Nat) (r : List Int), li[k]? = some x → rws[k]? = some r → RowOk (nxR rows size en) li x r) ∧ (∀ x ∈ li, x < rows.length * size) ∧ li.length ≤ rows.length * size ∧ Below w.heap.size w w' := by
 have hlen := Aside0.mk hcl.len
 have hsz1 := size_le htp hsz
 have hw1 := Aside0.mk (w_pow hsz hsz1.2)
 have hN8 : rows.length * size ≤ 800000 := Nat.le_trans (Nat.mul_le_mul hn hsz1.2) (by decide)
 clear hsz
 have hgp := blk_lt hP
 have P1 := blk_alloc hP (.cells #[.int .i64 0, .int .i64 0, .slice none 0 0, .slice none 0 0] 29)
 have d0 : (w.alloc (.cells #[.int .i64 0, .int .i64 0, .slice none 0 0, .slice none 0 0] 29)).cell? ⟨gp, 0, none⟩ = some (.int .i64 tapes) := (blk_cell P1 0).trans rfl
 have d2 : (w.alloc (.cells #[.int .i64 0, .int .i64 0, .slice none 0 0, .slice none 0 0] 29)).cell? ⟨gp, 2, none⟩ = some (.slice AA accs.length ca) := (blk_cell P1 2).trans rfl
 obtain ⟨NN, hNN⟩ : ∃ NN : Nat, rows.length * size = NN := ⟨_, rfl⟩
 rw [hNN] at hN8
 have hw2 : Aside0 (wrap64 ((accs.length : Int) * (size : Int)) = (NN : Int)) := ⟨by rw [← hlen.out]; exact w_mul hNN hN8⟩
 obtain ⟨s0, hS0⟩ : ∃ s0 : Nat, start * size = s0 := ⟨_, rfl⟩
 have hs0N : s0 < NN := by rw [← hS0]; exact cut_lt hst hNN hsz1.1
 have hw3 := Aside0.mk (w_mul hS0 (Nat.le_trans (Nat.le_of_lt hs0N) hN8))
 have hNN2 := Aside0.mk hNN
 have hS02 := Aside0.mk hS0
 clear hNN hS0
 go_enter Tryd.func108, Tryd.ntmps108
 go_wp2_with ((with_reducible refine gate_dst (N := 34) rfl ?_); go_loud (simp only [hw1.out, hw2.out]; refine Kd.R_make (Kd.int .i64) (w0 := w) w.heap.size 2 rfl (N := 34) rfl 86 _ _ rfl (NN : Int) rfl rfl Tryd.underlying86 (.int .i64 0) 8 info_long rfl (by decide) (by decide) (0 : Int) (ok := fun _ => True) (okp := fun _ => False) rfl (fun _ h => h.elim) trivial (by omega) (by simp; omega) (below_alloc (Below.refl _ _) _) (by simp) ?_; intro v2 w2 hR2 hb2 hg2 hn2; simp only [Int.toNat_natCast] at hR2; obtain ⟨gT, cT, hv2, hgT, _, _⟩ := Kd.R_form hR2 (by simp; omega); subst hv2; rw [List.length_replicate] at hR2; have h2 : R0 w gp #[.int .i64 tapes, .int .i64 start, .slice AA accs.length ca, .slice AN rows.length cn] (.slice (some ⟨gT, 0, none⟩) NN cT) (List.replicate NN 0) w2 := ⟨(Keep.grown hg2).obj P1 (by simp), (Keep.grown hg2).obj (blk_new _ _) (by simp), hR2, hb2⟩; clear hR2 hb2 hg2 hn2))
 clear P1 d0 d2
 go_loopg [6] NN (fun kq v6 wr => ∃ i : Nat, v6 = .int .i64 (i : Int) ∧ Aside0 (kq = NN - i) ∧ i ≤ NN ∧ Aside0 (R0 w gp #[.int .i64 tapes, .int .i64 start, .slice AA accs.length ca, .slice AN rows.length cn] (.slice (some ⟨gT, 0, none⟩) NN cT) (List.replicate i (-1) ++ List.replicate (NN - i) 0) wr))
 case atStart => exact ⟨0, rfl, ⟨by simp⟩, Nat.zero_le _, ⟨by simpa using h2⟩⟩
 case round =>
  clear h2
  obtain ⟨wo, rfl⟩ : ∃ wo : World, wo = wr := ⟨_, rfl⟩
  obtain ⟨i, rfl, hkq, hil, hr⟩ := hrel
  replace hr := hr.out
  by_cases hlt : i < NN
  ·have hl : (List.replicate i (-1 : Int) ++ List.replicate (NN - i) 0).length = NN := by simp; omega
   have k1 := sr_at hr.tab (i := i) (by rw [hl]; exact hlt)
   obtain ⟨hbT, cells, hcT⟩ := row_blk hr.tab (by rw [hl]; omega)
   have f1 : wo.frozen? ⟨gT, i, none⟩ = false := blk_frozen hcT i
   have h3 := hr.set hbT i (-1)
   rw [fill_step NN i hlt] at h3
   generalize (List.replicate i (-1 : Int) ++ List.replicate (NN - i) 0)[i]'(by rw [hl]; exact hlt) = oi at *
   clear hl hcT cells
   have hlt1 : ((i : Int) < (NN : Int)) = True := eq_true (by omega)
   have h0i : (0 ≤ (i : Int)) = True := eq_true (by omega)
   go_wp2_with fail
   go_roundg (NN - (i + 1))
   case measure => have := hkq.out; omega
   case rel => exact ⟨i + 1, (by go_num), ⟨by simp⟩, by omega, ⟨h3⟩⟩
  ·have hii : i = NN := by omega
   subst i
   have hlt1 : ((NN : Int) < (NN : Int)) = False := eq_false (by omega)
   have hl0 : List.replicate NN (-1 : Int) ++ List.replicate (NN - NN) 0 = List.replicate NN (-1) := by simp
   rw [hl0] at hr
   clear hl0
   have d0 : wo.cell? ⟨gp, 0, none⟩ = some (.int .i64 tapes) := (blk_cell hr.bP 0).trans rfl
   have d1 : wo.cell? ⟨gp, 1, none⟩ = some (.int .i64 start) := (blk_cell hr.bP 1).trans rfl
   obtain ⟨hbT, cells, hcT⟩ := row_blk hr.tab (by rw [List.length_replicate]; omega)
   have hgT1 := blk_lt hcT
   have hr1 := hr.step (below_alloc (Below.refl _ _) (.cells #[.int .i64 (s0 : Int)] 2))
   have d3 : (wo.alloc (.cells #[.int .i64 (s0 : Int)] 2)).cell? ⟨gp, 1, none⟩ = some (.int .i64 start) := (blk_cell hr1.bP 1).trans rfl
   have k1 := sr_at hr1.tab (i := s0) (by rw [List.length_replicate]; exact hs0N)
   have f1 : (wo.alloc (.cells #[.int .i64 (s0 : Int)] 2)).frozen? ⟨gT, s0, none⟩ = false := blk_frozen (blk_alloc hcT _) s0
   have hlt2 : ((s0 : Int) < (NN : Int)) = True := eq_true (by omega)
   have h0s : (0 ≤ (s0 : Int)) = True := eq_true (by omega)
   clear hcT cells
   have hr2 := (hr.set hbT s0 0).step (below_alloc (Below.refl _ _) (.cells #[.int .i64 (s0 : Int)] 2))
   have d4 : ((wo.setCell ⟨gT, s0, none⟩ (.int .i64 0)).alloc (.cells #[.int .i64 (s0 : Int)] 2)).cell? ⟨gp, 0, none⟩ = some (.int .i64 tapes) := (blk_cell hr2.bP 0).trans rfl
   have hw3e := hw3.out
   go_wp2_with fail
   clear hw3e d3 d4 k1 f1 hr1 d0 d1
   have hsw := Below.size hr.bel
   have hszw : (wo.setCell ⟨gT, s0, none⟩ (.int .i64 0)).heap.size = wo.heap.size := by simp [World.setCell]
   have hL : SR ((wo.setCell ⟨gT, s0, none⟩ (.int .i64 0)).alloc (.cells #[.int .i64 (s0 : Int)] 2)) w.heap.size (.slice (some ⟨wo.heap.size, 0, none⟩) 1 1) [(s0 : Int)] := by
    rw [← hszw]
    exact R_one (Kd.int .i64) _ _ _ (by rw [hszw]; exact hsw) (okp := fun _ => False) (cs := [.int .i64 (s0 : Int)]) rfl (fun _ h => h.elim) trivial
   generalize hWW : (wo.setCell ⟨gT, s0, none⟩ (.int .i64 0)).alloc (.cells #[.int .i64 (s0 : Int)] 2) = wx at *
   have hwx : wx.heap.size = wo.heap.size + 1 := by rw [← hWW]; simp [World.setCell]
   generalize hgg : wo.heap.size + 1 = gV at *
   have h5 : Rt w gp #[.int .i64 tapes, .int .i64 start, .slice AA accs.length ca, .slice AN rows.length cn] tapes gV (.slice (some ⟨gT, 0, none⟩) NN cT) ((List.replicate NN (-1 : Int)).set s0 0) (.slice (some ⟨wo.heap.size, 0, none⟩) 1 1) [(s0 : Int)] (.slice none 0 0) [] (.slice none 0 0) [] [] wd (wx.alloc (.cells #[.int .i64 tapes, .int .i64 0, .slice none 0 0, .slice none 0 0] 29)) :=
    ⟨blk_alloc hr2.bP _, blk_alloc hr2.bR _, blk_at _ _ _ hwx.symm, Kd.R_below hr2.tab (below_alloc (Below.refl _ _) _), Kd.R_below hL (below_alloc (Below.refl _ _) _), Kd.R_nil _ _ _ _ _, Kd.R_nil _ _ _ _ _, (fun i a r ha => by simp at ha), (fun a ha => by cases ha), List.Pairwise.nil, (fun k hk e => by cases hk; simp [Value.ownBlock] at e; omega), rfl, below_alloc hr2.bel _⟩
   have hTab := Aside0.mk (tab_start hs0N)
   have hVs : Aside0 (w.heap.size < gV) := ⟨by omega⟩
   have hgV : Aside0 (gp ≠ gV) := ⟨by omega⟩
   clear hr2 hr hL hWW hwx hszw hsw hgT1 hkq hgg
   go_loopg [7, 9] NN (fun kq v7 v9 wr => ∃ (i : Nat) (li : List Nat) (tab : List Int) (A7 : Option Addr) (c7 : Nat) (vA vN : Value) (hs : List (Nat × Nat)) (rws : List (List Int)), v7 = .slice A7 li.length c7 ∧ v9 = .int .i64 (i : Int) ∧ Aside0 (kq = NN - i) ∧ i ≤ li.length ∧ Aside0 (Tab NN li tab) ∧ Aside0 (li[0]? = some s0) ∧ Aside0 (rws.length = i) ∧ Aside0 (∀ r ∈ rws, r.length = wd) ∧ Aside0 (∀ (k x : Nat) (r : List Int), li[k]? = some x → rws[k]? = some r → RowOk (nxR rows size en) li x r) ∧
    Aside0 (Rt w gp #[.int .i64 tapes, .int .i64 start, .slice AA accs.length ca, .slice AN rows.length cn] tapes gV (.slice (some ⟨gT, 0, none⟩) NN cT) tab (.slice A7 li.length c7) (ints li) vA ((li.take i).map (fun x => accs.getD (x / size) false)) vN hs rws wd wr))
   case atStart => exact ⟨0, [s0], _, _, _, _, _, [], [], rfl, rfl, ⟨by simp⟩, Nat.zero_le _, hTab, ⟨rfl⟩, ⟨rfl⟩, ⟨fun r hr => by cases hr⟩, ⟨fun k x r _ hr => by simp at hr⟩, ⟨h5⟩⟩
   case round =>
    clear h5 hTab
    obtain ⟨wo, rfl⟩ : ∃ wo : World, wo = wr := ⟨_, rfl⟩
    obtain ⟨i, li, tab, A7, c7, vA, vN, hs, rws, rfl, rfl, hkq, hil, hTab, hli0, hrl, hrw, hok, hR⟩ := hrel
    replace hR := hR.out
    by_cases hlt : i < li.length
    ·have hli := hTab.out.le
     have hlsz : Aside0 (li[i] < NN) := ⟨hTab.out.lt _ (List.getElem_mem hlt)⟩
     obtain ⟨ad, rfl, k1⟩ := sr_at' hR.lst (i := i) (by rw [ints_length]; exact hlt)
     rw [ints_get li i _ hlt] at k1
     have hxi := Aside0.mk (List.getElem?_eq_getElem hlt)
     generalize li[i] = x at *
     have hlt1 : ((i : Int) < (li.length : Int)) = True := eq_true (by omega)
     have h0i : (0 ≤ (i : Int)) = True := eq_true (by omega)
     have hsx : x / size < rows.length := by
      rw [Nat.div_lt_iff_lt_mul hsz1.1, hNN2.out]
      exact hlsz.out
     have hxm : x % size < size := Nat.mod_lt _ hsz1.1
     have hw4 : wrap64 ((x : Int) / (size : Int)) = ((x / size : Nat) : Int) := w_div (Nat.le_trans (Nat.le_of_lt hsx) (Nat.le_trans hn (by decide)))
     obtain ⟨sx, hsx2⟩ : ∃ sx : Nat, Aside0 (x / size = sx) := ⟨_, ⟨rfl⟩⟩
     simp only [hsx2.out] at hw4 hsx
     go_wp2_with fail
     simp only [hw4]
     clear hw4 k1
     have hE := below_alloc (Below.refl wo.heap.size wo) (.cells #[] 2)
     have hR6 := hR.step hE
     have hr0 : SR (wo.alloc (.cells #[] 2)) wo.heap.size (.slice (some ⟨wo.heap.size, 0, none⟩) 0 0) [] := sr_zero wo _ (Nat.le_refl _)
     have hr6 := Kd.R_lower hr0 (Below.size hR.bel)
     have hfr : Clear (Value.slice (some ⟨wo.heap.size, 0, none⟩) 0 0) (Value.slice (some ⟨gT, 0, none⟩) NN cT) (Value.slice (some ad) li.length c7) hs := by
      intro k hk
      cases hk
      exact ⟨fun e => by have := Kd.R_lt hR.tab _ e.symm; simp only at this; omega, fun e => by have := Kd.R_lt hR.lst _ e.symm; simp only at this; omega, fun h hh e => absurd (hR.lt hh hR.len) (by rw [e]; exact Nat.lt_irrefl _)⟩
     have hfr2 := Aside0.mk hfr
     clear hfr hE hr0
     go_loopg [7, 11, 12] wd (fun kq v7 v11 v12 wq => ∃ (c : Nat) (li2 m : List Nat) (tab2 : List Int) (A7 : Option Addr) (c7 : Nat) (Ar : Option Addr) (cr : Nat) (r : List Int), v7 = .slice A7 li2.length c7 ∧ v11 = .slice Ar r.length cr ∧ v12 = .int .i64 (c : Int) ∧ Aside0 (kq = wd - c) ∧ c ≤ wd ∧ Aside0 (r.length = c) ∧ Aside0 (Tab NN li2 tab2) ∧ Aside0 (li2 = li ++ m) ∧ Aside0 (RowOk (nxR rows size en) li2 x r) ∧
      Aside0 (Clear (Value.slice Ar r.length cr) (Value.slice (some ⟨gT, 0, none⟩) NN cT) (Value.slice A7 li2.length c7) hs) ∧ Aside0 (SR wq w.heap.size (.slice Ar r.length cr) r) ∧
      Aside0 (Rt w gp #[.int .i64 tapes, .int .i64 start, .slice AA accs.length ca, .slice AN rows.length cn] tapes gV (.slice (some ⟨gT, 0, none⟩) NN cT) tab2 (.slice A7 li2.length c7) (ints li2) vA ((li.take i).map (fun x => accs.getD (x / size) false)) vN hs rws wd wq))
     case atStart => exact ⟨0, li, [], tab, _, _, _, _, [], rfl, rfl, rfl, ⟨by simp⟩, Nat.zero_le _, ⟨rfl⟩, hTab, ⟨by simp⟩, ⟨fun c hc => by cases hc⟩, hfr2, ⟨hr6⟩, ⟨hR6⟩⟩
     case round =>
      clear hr6 hR6 hfr2 hTab
      obtain ⟨c, li2, m, tab2, A7, c7, Ar, cr, r, rfl, rfl, rfl, hkc, hcw, hrc, hTab, hlm, hro, hfr, hr, hQ⟩ := hrel
      replace hr := hr.out
      replace hQ := hQ.out
      have hil2 : i < li2.length := by rw [hlm.out, List.length_append]; omega
      have hlx : Aside0 (li2[i] = x) := ⟨by
       have h := get_app m hxi.out
       rw [← hlm.out, List.getElem?_eq_getElem hil2] at h
       exact Option.some.inj h⟩
      obtain ⟨a7, rfl, e1⟩ := sr_at' hQ.lst (i := i) (by rw [ints_length]; exact hil2)
      rw [ints_get li2 i _ hil2, hlx.out] at e1
      have e0 : wr.cell? ⟨gp, 0, none⟩ = some (.int .i64 tapes) := (blk_cell hQ.bP 0).trans rfl
      by_cases hc : c < wd
      ·have hlt2 : ((c : Int) < (wd : Int)) = True := eq_true (by omega)
       go_wp2_with (go_at_call 60; (with_reducible refine (hwide _).mono ?_); rintro e w4 ⟨rfl, hb4⟩; replace hQ := hQ.step hb4; replace hr := Kd.R_below hr hb4; clear e0 e1)
       have e0 : w4.cell? ⟨gp, 0, none⟩ = some (.int .i64 tapes) := (blk_cell hQ.bP 0).trans rfl
       have e1 : w4.cell? (a7.add i) = some (.int .i64 (x : Int)) := by
        obtain ⟨ad, e, k⟩ := sr_at' hQ.lst (i := i) (by rw [ints_length]; exact hil2)
        cases e
        rw [ints_get li2 i _ hil2, hlx.out] at k
        exact k
       have hi2 : ((i : Int) < (li2.length : Int)) = True := eq_true (by omega)
       have hsz0 : (size = 0) = False := eq_false (by omega)
       have htm : Int.tmod (x : Int) (size : Int) = ((x % size : Nat) : Int) := rfl
       have hQd := hQ.step (below_drew1 (Below.refl _ _))
       have hrd := Kd.R_below hr (below_drew1 (Below.refl _ _))
       refine start_ (n := 13) (S := fun w' => w'.cell? ⟨gp, 0, none⟩ = some (.int .i64 tapes) ∧ w'.cell? (a7.add i) = some (.int .i64 (x : Int))) (ds := []) #[false, false, false, false, false, false, false, false, false, false, false, false, false] (by kernel_rfl) rfl rfl (⟨e0, e1⟩) (fun hHeld => ?_)
       refine pure_ (i := 0) (N := some 86) (v := ?_) (a' := ?_) #[true, false, false, false, false, false, false, false, false, false, false, false, false] rfl rfl (by kernel_rfl) (fun _ _ _ h => h) (Or.inl ⟨by rfl, ?_⟩) ?_ ?_
       rotate_left
       ·intro w'
        go_simp
        with_reducible rfl
       rotate_left
       ·simp only [Act.put, List.setIfInBounds_toArray, List.set_cons_zero, List.set_cons_succ, i64_w, i32_w]
        rfl
       refine pure_ (i := 1) (N := some 87) (v := ?_) (a' := ?_) #[true, true, false, false, false, false, false, false, false, false, false, false, false] rfl rfl (by kernel_rfl) (fun _ _ _ h => h) (Or.inl ⟨by rfl, ?_⟩) ?_ ?_
       rotate_left
       ·intro w'
        go_simp
        with_reducible rfl
       rotate_left
       ·simp only [Act.put, List.setIfInBounds_toArray, List.set_cons_zero, List.set_cons_succ, i64_w, i32_w]
        rfl
       refine pure_ (i := 2) (N := some 88) (v := ?_) (a' := ?_) #[true, true, true, false, false, false, false, false, false, false, false, false, false] rfl rfl (by kernel_rfl) (fun _ _ _ h => h) (Or.inl ⟨by rfl, ?_⟩) ?_ ?_
       rotate_left
       ·intro w'
        go_simp
        with_reducible rfl
       rotate_left
       ·simp only [Act.put, List.setIfInBounds_toArray, List.set_cons_zero, List.set_cons_succ, i64_w, i32_w]
        rfl
       refine pure_ (i := 4) (N := some 90) (v := ?_) (a' := ?_) #[true, true, true, false, true, false, false, false, false, false, false, false, false] rfl rfl (by kernel_rfl) (fun _ _ _ h => h) (Or.inl ⟨by rfl, ?_⟩) ?_ ?_
       rotate_left
       ·intro w'
        go_simp
        with_reducible rfl
       rotate_left
       ·simp only [Act.put, List.setIfInBounds_toArray, List.set_cons_zero, List.set_cons_succ, i64_w, i32_w]
        rfl
       refine pure_ (i := 5) (N := some 91) (v := ?_) (a' := ?_) #[true, true, true, false, true, true, false, false, false, false, false, false, false] rfl rfl (by kernel_rfl) (fun _ _ _ h => h) (Or.inl ⟨by rfl, ?_⟩) ?_ ?_
       rotate_left
       ·intro w'
        go_simp
        with_reducible rfl
       rotate_left
       ·simp only [Act.put, List.setIfInBounds_toArray, List.set_cons_zero, List.set_cons_succ, i64_w, i32_w]
        rfl
       refine pure_ (i := 6) (N := some 92) (v := ?_) (a' := ?_) #[true, true, true, false, true, true, true, false, false, false, false, false, false] rfl rfl (by kernel_rfl) (fun _ _ _ h => h) (Or.inl ⟨by rfl, ?_⟩) ?_ ?_
       rotate_left
       ·intro w'
        go_simp
        with_reducible rfl
       rotate_left
       ·simp only [Act.put, List.setIfInBounds_toArray, List.set_cons_zero, List.set_cons_succ, i64_w, i32_w]
        rfl
       refine pure_ (i := 8) (N := some 94) (v := ?_) (a' := ?_) #[true, true, true, false, true, true, true, false, true, false, false, false, false] rfl rfl (by kernel_rfl) (fun _ _ _ h => h) (Or.inl ⟨by rfl, ?_⟩) ?_ ?_
       rotate_left
       ·intro w'
        go_simp
        with_reducible rfl
       rotate_left
       ·simp only [Act.put, List.setIfInBounds_toArray, List.set_cons_zero, List.set_cons_succ, i64_w, i32_w]
        rfl
       refine pure_ (i := 10) (N := some 96) (v := ?_) (a' := ?_) #[true, true, true, false, true, true, true, false, true, false, true, false, false] rfl rfl (by kernel_rfl) (fun _ _ _ h => h) (Or.inl ⟨by rfl, ?_⟩) ?_ ?_
       rotate_left
       ·intro w'
        go_simp
        with_reducible rfl
       rotate_left
       ·simp only [Act.put, List.setIfInBounds_toArray, List.set_cons_zero, List.set_cons_succ, i64_w, i32_w]
        rfl
       refine take_ (i := 3) (N := some 89) (v := ?_) (a' := ?_) #[true, true, true, true, true, true, true, false, true, false, true, false, false] rfl rfl (by kernel_rfl) (fun _ _ _ h => h) (Or.inl ⟨by rfl, ?_⟩) hHeld ?_ ?_
       rotate_left
       ·rintro w' ⟨s1, s2⟩
        go_simp
        with_reducible rfl
       rotate_left
       ·simp only [Act.put, List.setIfInBounds_toArray, List.set_cons_zero, List.set_cons_succ, i64_w, i32_w]
        rfl
       refine take_ (i := 7) (N := some 93) (v := ?_) (a' := ?_) #[true, true, true, true, true, true, true, true, true, false, true, false, false] rfl rfl (by kernel_rfl) (fun _ _ _ h => h) (Or.inl ⟨by rfl, ?_⟩) hHeld ?_ ?_
       rotate_left
       ·rintro w' ⟨s1, s2⟩
        go_simp
        with_reducible rfl
       rotate_left
       ·simp only [Act.put, List.setIfInBounds_toArray, List.set_cons_zero, List.set_cons_succ, i64_w, i32_w]
        rfl
       refine pure_ (i := 9) (N := some 95) (v := ?_) (a' := ?_) #[true, true, true, true, true, true, true, true, true, true, true, false, false] rfl rfl (by kernel_rfl) (fun _ _ _ h => h) (Or.inl ⟨by rfl, ?_⟩) ?_ ?_
       rotate_left
       ·intro w'
        go_simp
        with_reducible rfl
       rotate_left
       ·simp only [Act.put, List.setIfInBounds_toArray, List.set_cons_zero, List.set_cons_succ, i64_w, i32_w]
        rfl
       refine one_ (i := 11) (N := some 97) #[true, true, true, true, true, true, true, true, true, true, true, true, false] rfl rfl (by kernel_rfl) (by decide) (fun K hK => ?_)
       refine goes_ Tryd.func157 (by kernel_rfl) rfl #[.int .i64 tapes, .int .i64 ((x % size : Nat) : Int), .int .i64 (c : Int)] (by rfl) rfl rfl (by (try simp only [List.map_toArray, List.map_cons, List.map_nil]); first | done | rfl) ?_
       with_reducible refine (hended _ (x % size) c hxm hc).mono ?_
       rintro e w5 ⟨rfl, hb5⟩
       refine ⟨_, rfl, ?_⟩
       have hQ5 := hQd.step hb5
       have hr5 := Kd.R_below hrd hb5
       refine hK.out _ _ ⟨(blk_cell hQ5.bP 0).trans rfl, by obtain ⟨ad, e, k⟩ := sr_at' hQ5.lst (i := i) (by rw [ints_length]; exact hil2); cases e; rw [ints_get li2 i _ hil2, hlx.out] at k; exact k⟩ (fun hHeld => ?_)
       clear hK K
       refine norm_ (a' := ?_) ?_ ?_
       rotate_left
       ·show Act.put _ (some 97) _ = _
        simp only [Act.put, List.setIfInBounds_toArray, List.set_cons_zero, List.set_cons_succ, i64_w, i32_w]
        rfl
       refine pure_ (i := 12) (N := some 13) (v := ?_) (a' := ?_) #[true, true, true, true, true, true, true, true, true, true, true, true, true] rfl rfl (by kernel_rfl) (fun _ _ _ h => h) (Or.inl ⟨by rfl, ?_⟩) ?_ ?_
       rotate_left
       ·intro w'
        go_simp
        with_reducible rfl
       rotate_left
       ·simp only [Act.put, List.setIfInBounds_toArray, List.set_cons_zero, List.set_cons_succ, i64_w, i32_w]
        rfl
       refine done_ (by kernel_rfl) ?_
       have hro2 := hro.out
       have hlr := hrc.out
       cases he : en (x % size) c with
       | none =>
        have hv : enI en (x % size) c = -1 := by unfold enI; rw [he]
        have hnx : nxR rows size en x r.length = none := by unfold nxR; rw [hlr, he]; rfl
        have hro3 := Aside0.mk (hro2.none hnx)
        rw [hv]
        clear he hv hnx hro2
        go_wp2_with ((with_reducible refine gate_builtin (b := .append) (xs := #[.tmp 100, .tmp 101]) rfl ?_); go_loud (at_builtin; refine R_append' (Kd.int .i64) (w0 := w) w.heap.size rfl (.tmp 100) (.tmp 101) 86 2 (.int .i64 0) 8 rfl Tryd.underlying86 info_long rfl (by decide) (by decide) (.slice Ar r.length cr) r (-1) [.int .i64 (-1)] (fun _ => True) (fun _ => False) _ (by simp) rfl rfl rfl (fun _ h => h.elim) (fun _ _ => trivial) hr5 hQ5.bel (Below.size hQ5.bel) (by omega) ?_; intro v6 w6 hR6 hb6 hg6 hat6; obtain ⟨A6, c6, hv6⟩ := Kd.R_slice hR6; subst hv6; obtain ⟨hQ6, hf6⟩ := hQ5.app hr5 hfr.out hg6 hat6 hb6))
        go_roundg (wd - (c + 1))
        case measure => have := hkc.out; omega
        case rel => exact ⟨c + 1, li2, m, tab2, some a7, c7, A6, c6, r ++ [-1], rfl, (by simp [hlr]), (by go_num), ⟨by simp⟩, by omega, ⟨by simp [hlr]⟩, hTab, hlm, hro3, ⟨hf6⟩, ⟨hR6⟩, ⟨hQ6⟩⟩
       | some e' =>
        have hv : enI en (x % size) c = (e' : Int) := by unfold enI; rw [he]
        rw [hv]
        have hee := hen (x % size) c e' hxm hc he
        obtain ⟨ad, rfl, A', c', n1, n2, n3⟩ := at_row (Kd.C_below hN hQ5.bel) sx (by simpa using hsx)
        have er : (rows.map ints)[sx]'(by simpa using hsx) = ints rows[sx] := by simp
        have hrw2 : rows[sx].length = wd := hcl.wide _ (List.getElem_mem hsx)
        rw [er, ints_length, hrw2] at n1 n2 n3
        obtain ⟨a2, rfl, n4⟩ := at_num n3 c (by rw [ints_length]; omega)
        rw [ints_get _ c _ (by omega)] at n4
        have hy : rows[sx][c]'(by omega) < rows.length := hcl.lt _ (List.getElem_mem hsx) _ (List.getElem_mem _)
        have hyt := y_lt hy hNN2.out hee
        have hnx : nxR rows size en x r.length = some (rows[sx][c]'(by omega) * size + e') := by
         unfold nxR
         rw [hlr, he, hsx2.out, List.getD_eq_getElem?_getD (l := rows), List.getElem?_eq_getElem hsx, Option.getD_some, List.getD_eq_getElem?_getD, List.getElem?_eq_getElem (by omega)]
         rfl
        have hw6 := Aside0.mk (w_mul (a := rows[sx][c]'(by omega)) (size := size) rfl (by omega))
        have hw7 := Aside0.mk (w_add (a := rows[sx][c]'(by omega) * size) (b := e') (by omega))
        obtain ⟨t, ht⟩ : ∃ t : Nat, rows[sx][c]'(by omega) * size + e' = t := ⟨_, rfl⟩
        rw [ht] at hw7 hyt hnx
        clear ht hy er
        generalize rows[sx][c]'(by omega) = y at *
        generalize y * size = yz at *
        clear hrw2 hv
        have hs1 : ((sx : Int) < (rows.length : Int)) = True := eq_true (by omega)
        have hs2 : (0 ≤ (sx : Int)) = True := eq_true (by omega)
        have hc2 : (0 ≤ (c : Int)) = True := eq_true (by omega)
        have ht1 : ((t : Int) < (NN : Int)) = True := eq_true (by omega)
        have ht2 : (0 ≤ (t : Int)) = True := eq_true (by omega)
        have g3 : w5.cell? ⟨gp, 3, none⟩ = some (.slice (some ad) rows.length cn) := (blk_cell hQ5.bP 3).trans rfl
        have htl := hTab.out.len
        have kt := sr_at hQ5.tab (i := t) (by omega)
        obtain ⟨hbT, cells, hcT⟩ := row_blk hQ5.tab (by omega)
        have ft : w5.frozen? ⟨gT, t, none⟩ = false := blk_frozen hcT t
        rcases hTab.out.at_ t (by omega) with ⟨hm1, hnm⟩ | ⟨j, hm1, hj⟩
        ·have e1 : tab2[t]'(by omega) = -1 := by rw [List.getElem?_eq_getElem (by omega)] at hm1; exact Option.some.inj hm1
         rw [e1] at kt
         have hle := hTab.out.le
         have hQ6 := hQ5.set hbT t (li2.length : Int)
         have hr6 : SR _ w.heap.size (.slice Ar r.length cr) r := SR.move hr5 (Keep.set w5 ⟨gT, t, none⟩ (.int .i64 (li2.length : Int))) (fun k hk => (hfr.out k hk).1)
         have hTab2 := Aside0.mk (hTab.out.push (x := t) (by omega) hnm)
         have hro3 := Aside0.mk ((hro2.grow [t]).some hnx (j := li2.length) (by simp))
         have hst2 : (tab2.set t (li2.length : Int)).length = NN := by rw [List.length_set, htl]
         have hst3 := Aside0.mk hst2
         have hyt2 := Aside0.mk hyt
         have hil3 : Aside0 (ints (li2 ++ [t]) = ints li2 ++ [(t : Int)]) := ⟨by simp [ints, GwI.ints]⟩
         have hlm2 : Aside0 (li2 ++ [t] = li ++ (m ++ [t])) := ⟨by rw [hlm.out, List.append_assoc]⟩
         clear e1 hm1 hnm hnx hro2 he hcT cells htl hst2 hyt hlr
         have hu6 := hw6.out
         have hu7 := hw7.out
         go_wp2_with (first
          | ((with_reducible refine gate_builtin (b := .append) (xs := #[.tmp 127, .tmp 129]) rfl ?_); go_loud ((try simp only [hu6, hu7]); clear hu6 hu7; at_builtin; refine R_append' (Kd.int .i64) (w0 := w) w.heap.size rfl (.tmp 127) (.tmp 129) 86 2 (.int .i64 0) 8 rfl Tryd.underlying86 info_long rfl (by decide) (by decide) (.slice (some a7) li2.length c7) (ints li2) (t : Int) [.int .i64 (t : Int)] (fun _ => True) (fun _ => False) _ (by simp) rfl rfl rfl (fun _ h => h.elim) (fun _ _ => trivial) hQ6.lst hQ6.bel (Below.size hQ6.bel) (by rw [ints_length]; omega) ?_; intro v7 w7 hR7 hb7 hg7 hat7; obtain ⟨A8, c8, hv7⟩ := Kd.R_slice hR7; rw [← hil3.out] at hR7; have ev : (ints li2 ++ [(t : Int)]).length = li2.length + 1 := (by simp [ints, GwI.ints]); rw [ev] at hv7; subst hv7; have hQ7 := hQ6.push hg7 hat7 hR7 hb7; have hf7 := Clear.push hfr.out hr6 hat7; have hr7 : SR w7 w.heap.size (.slice Ar r.length cr) r := SR.move hr6 (Keep.grown hg7) (fun k hk => (hfr.out k hk).2.1); have kt7 := sr_at hQ7.tab (i := t) (by rw [hst3.out]; exact hyt2.out); rw [List.getElem_set_self] at kt7))
          | ((with_reducible refine gate_builtin (b := .append) (xs := #[.tmp 131, .tmp 136]) rfl ?_); go_loud (at_builtin; refine R_append' (Kd.int .i64) (w0 := w) w.heap.size rfl (.tmp 131) (.tmp 136) 86 2 (.int .i64 0) 8 rfl Tryd.underlying86 info_long rfl (by decide) (by decide) (.slice Ar r.length cr) r (li2.length : Int) [.int .i64 (li2.length : Int)] (fun _ => True) (fun _ => False) _ (by simp) rfl rfl rfl (fun _ h => h.elim) (fun _ _ => trivial) hr7 hQ7.bel (Below.size hQ7.bel) (by have := hrc.out; omega) ?_; intro v6 w6 hR8 hb8 hg8 hat8; obtain ⟨A6, c6, hv6⟩ := Kd.R_slice hR8; subst hv6; obtain ⟨hQ8, hf8⟩ := hQ7.app hr7 hf7 hg8 hat8 hb8)))
         go_roundg (wd - (c + 1))
         case measure => have := hkc.out; omega
         case rel => exact ⟨c + 1, li2 ++ [t], m ++ [t], tab2.set t (li2.length : Int), A8, c8, A6, c6, r ++ [(li2.length : Int)], (by simp), (by simp [hrc.out]), (by go_num), ⟨by simp⟩, by omega, ⟨by simp [hrc.out]⟩, hTab2, hlm2, hro3, ⟨by simpa using hf8⟩, ⟨hR8⟩, ⟨by simpa using hQ8⟩⟩
        ·have e1 : tab2[t]'(by omega) = (j : Int) := by rw [List.getElem?_eq_getElem (by omega)] at hm1; exact Option.some.inj hm1
         rw [e1] at kt
         have hj0 : ((j : Int) < 0) = False := eq_false (by omega)
         have hro3 := Aside0.mk (hro2.some hnx hj)
         clear e1 hm1 hj hnx hro2 he hcT cells htl hyt
         have hu6 := hw6.out
         have hu7 := hw7.out
         go_wp2_with ((with_reducible refine gate_builtin (b := .append) (xs := #[.tmp 131, .tmp 136]) rfl ?_); go_loud (clear hu6 hu7; at_builtin; refine R_append' (Kd.int .i64) (w0 := w) w.heap.size rfl (.tmp 131) (.tmp 136) 86 2 (.int .i64 0) 8 rfl Tryd.underlying86 info_long rfl (by decide) (by decide) (.slice Ar r.length cr) r (j : Int) [.int .i64 (j : Int)] (fun _ => True) (fun _ => False) _ (by simp) rfl rfl rfl (fun _ h => h.elim) (fun _ _ => trivial) hr5 hQ5.bel (Below.size hQ5.bel) (by omega) ?_; intro v6 w6 hR6 hb6 hg6 hat6; obtain ⟨A6, c6, hv6⟩ := Kd.R_slice hR6; subst hv6; obtain ⟨hQ6, hf6⟩ := hQ5.app hr5 hfr.out hg6 hat6 hb6))
         go_roundg (wd - (c + 1))
         case measure => have := hkc.out; omega
         case rel => exact ⟨c + 1, li2, m, tab2, some a7, c7, A6, c6, r ++ [(j : Int)], rfl, (by simp [hlr]), (by go_num), ⟨by simp⟩, by omega, ⟨by simp [hlr]⟩, hTab, hlm, hro3, ⟨hf6⟩, ⟨hR6⟩, ⟨hQ6⟩⟩
      ·have hcc : c = wd := by omega
       subst c
       have hlt2 : ((wd : Int) < (wd : Int)) = False := eq_false (by omega)
       go_wp2_with (go_at_call 60; (with_reducible refine (hwide _).mono ?_); rintro e w4 ⟨rfl, hb4⟩; replace hQ := hQ.step hb4; replace hr := Kd.R_below hr hb4; clear e0 e1)
       generalize w4 = wr at *
       have hsa : sx < accs.length := by rw [← hlen.out]; exact hsx
       obtain ⟨am, rfl, _⟩ := at_mark hA sx hsa
       obtain ⟨bx, hbx⟩ : ∃ bx : Bool, Aside0 (accs[sx] = bx) := ⟨_, ⟨rfl⟩⟩
       have hsa1 : ((sx : Int) < (accs.length : Int)) = True := eq_true (by omega)
       have hsa2 : (0 ≤ (sx : Int)) = True := eq_true (by omega)
       have hQd := hQ.step (below_drew1 (Below.refl _ _))
       have hrd := Kd.R_below hr (below_drew1 (Below.refl _ _))
       have hSS : ∀ W' tab vL li vA' bs vN hs rws, Rt w gp #[.int .i64 tapes, .int .i64 start, .slice (some am) accs.length ca, .slice AN rows.length cn] tapes gV (.slice (some ⟨gT, 0, none⟩) NN cT) tab vL li vA' bs vN hs rws wd W' → W'.cell? ⟨gV, 2, none⟩ = some vA' ∧ W'.cell? ⟨gp, 2, none⟩ = some (.slice (some am) accs.length ca) ∧ W'.cell? (am.add sx) = some (.bool bx) := by
        intro W' tab vL li vA' bs vN hs rws h
        obtain ⟨a9, e9, k9⟩ := at_mark (Kd.C_below hA h.bel) sx hsa
        cases e9
        exact ⟨(blk_cell h.bV 2).trans rfl, (blk_cell h.bP 2).trans rfl, by rw [k9, hbx.out]⟩
       refine start_ (n := 13) (S := fun w' => w'.cell? ⟨gV, 2, none⟩ = some vA ∧ w'.cell? ⟨gp, 2, none⟩ = some (.slice (some am) accs.length ca) ∧ w'.cell? (am.add sx) = some (.bool bx)) (ds := [12]) #[false, false, false, false, false, false, false, false, false, false, false, false, false] (by kernel_rfl) rfl rfl (hSS _ _ _ _ _ _ _ _ _ hQd) (fun hHeld => ?_)
       refine pure_ (i := 0) (N := some 138) (v := ?_) (a' := ?_) #[true, false, false, false, false, false, false, false, false, false, false, false, false] rfl rfl (by kernel_rfl) (fun _ _ _ h => h) (Or.inl ⟨by rfl, ?_⟩) ?_ ?_
       rotate_left
       ·intro w'
        go_simp
        with_reducible rfl
       rotate_left
       ·simp only [Act.put, List.setIfInBounds_toArray, List.set_cons_zero, List.set_cons_succ, i64_w, i32_w]
        rfl
       refine pure_ (i := 2) (N := some 140) (v := ?_) (a' := ?_) #[true, false, true, false, false, false, false, false, false, false, false, false, false] rfl rfl (by kernel_rfl) (fun _ _ _ h => h) (Or.inl ⟨by rfl, ?_⟩) ?_ ?_
       rotate_left
       ·intro w'
        go_simp
        with_reducible rfl
       rotate_left
       ·simp only [Act.put, List.setIfInBounds_toArray, List.set_cons_zero, List.set_cons_succ, i64_w, i32_w]
        rfl
       refine pure_ (i := 3) (N := some 141) (v := ?_) (a' := ?_) #[true, false, true, true, false, false, false, false, false, false, false, false, false] rfl rfl (by kernel_rfl) (fun _ _ _ h => h) (Or.inl ⟨by rfl, ?_⟩) ?_ ?_
       rotate_left
       ·intro w'
        go_simp
        with_reducible rfl
       rotate_left
       ·simp only [Act.put, List.setIfInBounds_toArray, List.set_cons_zero, List.set_cons_succ, i64_w, i32_w]
        rfl
       refine pure_ (i := 4) (N := some 142) (v := ?_) (a' := ?_) #[true, false, true, true, true, false, false, false, false, false, false, false, false] rfl rfl (by kernel_rfl) (fun _ _ _ h => h) (Or.inl ⟨by rfl, ?_⟩) ?_ ?_
       rotate_left
       ·intro w'
        go_simp
        with_reducible rfl
       rotate_left
       ·simp only [Act.put, List.setIfInBounds_toArray, List.set_cons_zero, List.set_cons_succ, i64_w, i32_w]
        rfl
       refine pure_ (i := 6) (N := some 144) (v := ?_) (a' := ?_) #[true, false, true, true, true, false, true, false, false, false, false, false, false] rfl rfl (by kernel_rfl) (fun _ _ _ h => h) (Or.inl ⟨by rfl, ?_⟩) ?_ ?_
       rotate_left
       ·intro w'
        go_simp
        with_reducible rfl
       rotate_left
       ·simp only [Act.put, List.setIfInBounds_toArray, List.set_cons_zero, List.set_cons_succ, i64_w, i32_w]
        rfl
       refine take_ (i := 1) (N := some 139) (v := ?_) (a' := ?_) #[true, true, true, true, true, false, true, false, false, false, false, false, false] rfl rfl (by kernel_rfl) (fun _ _ _ h => h) (Or.inl ⟨by rfl, ?_⟩) hHeld ?_ ?_
       rotate_left
       ·rintro w' ⟨s1, s2, s3⟩
        go_simp
        with_reducible rfl
       rotate_left
       ·simp only [Act.put, List.setIfInBounds_toArray, List.set_cons_zero, List.set_cons_succ, i64_w, i32_w]
        rfl
       refine take_ (i := 5) (N := some 143) (v := ?_) (a' := ?_) #[true, true, true, true, true, true, true, false, false, false, false, false, false] rfl rfl (by kernel_rfl) (fun _ _ _ h => h) (Or.inl ⟨by rfl, ?_⟩) hHeld ?_ ?_
       rotate_left
       ·rintro w' ⟨s1, s2, s3⟩
        go_simp
        with_reducible rfl
       rotate_left
       ·simp only [Act.put, List.setIfInBounds_toArray, List.set_cons_zero, List.set_cons_succ, i64_w, i32_w]
        rfl
       refine pure_ (i := 7) (N := some 145) (v := ?_) (a' := ?_) #[true, true, true, true, true, true, true, true, false, false, false, false, false] rfl rfl (by kernel_rfl) (fun _ _ _ h => h) (Or.inl ⟨by rfl, ?_⟩) ?_ ?_
       rotate_left
       ·intro w'
        go_simp
        with_reducible rfl
       rotate_left
       ·simp only [Act.put, List.setIfInBounds_toArray, List.set_cons_zero, List.set_cons_succ, i64_w, i32_w]
        rfl
       refine take_ (i := 8) (N := some 146) (v := ?_) (a' := ?_) #[true, true, true, true, true, true, true, true, true, false, false, false, false] rfl rfl (by kernel_rfl) (fun _ _ _ h => h) (Or.inl ⟨by rfl, ?_⟩) hHeld ?_ ?_
       rotate_left
       ·rintro w' ⟨s1, s2, s3⟩
        go_simp
        with_reducible rfl
       rotate_left
       ·simp only [Act.put, List.setIfInBounds_toArray, List.set_cons_zero, List.set_cons_succ, i64_w, i32_w]
        rfl
       refine one_ (i := 9) (N := some 147) #[true, true, true, true, true, true, true, true, true, true, false, false, false] rfl rfl (by kernel_rfl) (by decide) (fun K hK => ?_)
       refine value_ (w1 := wr.drew.alloc (.cells #[.bool bx] 4)) (v := .slice (some ⟨wr.drew.heap.size, 0, none⟩) 1 1) (by rfl) rfl (by first | (go_simp; done) | (go_simp; rfl)) ?_
       have hQ5 := hQd.step (below_alloc (Below.refl _ _) (.cells #[.bool bx] 4))
       refine hK.out _ _ (hSS _ _ _ _ _ _ _ _ _ hQ5) (fun hHeld => ?_)
       clear hK K
       refine norm_ (a' := ?_) ?_ ?_
       rotate_left
       ·show Act.put _ (some 147) _ = _
        simp only [Act.put, List.setIfInBounds_toArray, List.set_cons_zero, List.set_cons_succ, i64_w, i32_w]
        rfl
       refine one_ (i := 10) (N := some 148) #[true, true, true, true, true, true, true, true, true, true, true, false, false] rfl rfl (by kernel_rfl) (by decide) (fun K hK => ?_)
       refine Kd.R_append_step Kd.bool (w0 := w) w.heap.size (by rfl) (.tmp 139) (.tmp 147) 22 4 (.bool false) 1 rfl Tryd.underlying22 GwI.info_bool rfl (by decide) (by decide) vA ((li.take i).map (fun x => accs.getD (x / size) false)) bx [.bool bx] (fun _ => True) (fun _ => False) rfl rfl rfl (fun _ h => h.elim) (fun _ _ => trivial) hQd.acc hQd.bel (Below.size hQd.bel) (by simp <;> omega) ?_
       intro v6 w6 hR6 hb6 hg6 hat6
       obtain ⟨A6, c6, hv6⟩ := Kd.R_slice hR6
       subst hv6
       obtain ⟨b26, hQ6⟩ := hQd.mark hVs.out hgV.out hg6 hR6 hb6
       have hr6 : SR w6 w.heap.size _ r := R_off hrd (Keep.grown hg6) (Off.row hQd.acc (by decide))
       obtain ⟨a9, e9, k9⟩ := at_mark (Kd.C_below hA hb6) sx hsa
       cases e9
       refine hK.out _ _ ⟨(blk_cell b26 2).trans rfl, by have h := (Keep.grown hg6).obj hQd.bP (off_ne hQd.bP (Off.row hQd.acc (by decide))); exact (blk_cell h 2).trans rfl, by rw [k9, hbx.out]⟩ (fun hHeld => ?_)
       clear hK K
       refine norm_ (a' := ?_) ?_ ?_
       rotate_left
       ·show Act.put _ (some 148) _ = _
        simp only [Act.put, List.setIfInBounds_toArray, List.set_cons_zero, List.set_cons_succ, i64_w, i32_w]
        rfl
       refine pure_ (i := 11) (N := some 149) (v := ?_) (a' := ?_) #[true, true, true, true, true, true, true, true, true, true, true, true, false] rfl rfl (by kernel_rfl) (fun _ _ _ h => h) (Or.inl ⟨by rfl, ?_⟩) ?_ ?_
       rotate_left
       ·intro w'
        go_simp
        with_reducible rfl
       rotate_left
       ·simp only [Act.put, List.setIfInBounds_toArray, List.set_cons_zero, List.set_cons_succ, i64_w, i32_w]
        rfl
       refine last_ (i := 12) (N := none) #[true, true, true, true, true, true, true, true, true, true, true, true, true] rfl rfl (by kernel_rfl) (by decide) (fun K hK => ?_)
       have hf6 : w6.frozen? ⟨gV, 2, none⟩ = false := blk_frozen b26 2
       have hc6 : w6.cell? ⟨gV, 2, none⟩ = some vA := (blk_cell b26 2).trans rfl
       refine skip_ (w1 := w6.setCell ⟨gV, 2, none⟩ (.slice A6 (((li.take i).map (fun x => accs.getD (x / size) false)) ++ [bx]).length c6)) (by rfl) rfl (by first | (go_simp; done) | (go_simp; rfl)) ?_
       refine hK.out _ _ ?_
       clear hK K
       refine done_ (by kernel_rfl) ?_
       have hr7 : SR (w6.setCell ⟨gV, 2, none⟩ (.slice A6 (((li.take i).map (fun x => accs.getD (x / size) false)) ++ [bx]).length c6)) w.heap.size _ r := R_off hr6 (Keep.set w6 ⟨gV, 2, none⟩ _) (Off.cells b26 (by decide))
       clear hSS hQd hrd hQ5 hf6 hc6 b26 hr6 hR6 hb6 hg6 hHeld k9 hQ hr
       generalize w6.setCell ⟨gV, 2, none⟩ (.slice A6 (((li.take i).map (fun x => accs.getD (x / size) false)) ++ [bx]).length c6) = w7 at *
       have c3 : w7.cell? ⟨gV, 3, none⟩ = some vN := (blk_cell hQ6.bV 3).trans rfl
       obtain ⟨g0, cap, ev, hg0, hg1, _⟩ := Kd.R_form hr7 (by have := hrc.out; omega)
       cases ev
       have hrcw := hrc.out
       rw [hrcw] at hr7
       simp only [hrcw]
       have hfr3 := hfr.out g0 rfl
       have hfr4 := Aside0.mk hfr3
       clear hfr3 hfr
       have hrc2 := Aside0.mk hrcw
       have hhl : hs.length = i := by rw [hQ6.len]; exact hrl.out
       have hhl2 := Aside0.mk hhl
       clear hrcw hhl
       go_wp2_with ((with_reducible refine gate_builtin (b := .append) (xs := #[.tmp 151, .tmp 153]) rfl ?_); go_loud (at_builtin; refine R_append' (hk wd) (w0 := w) w.heap.size rfl (.tmp 151) (.tmp 153) 23 86 (.slice none 0 0) 24 rfl Tryd.underlying23 info_longs rfl (show 0 < 1 from Nat.one_pos) (by decide) vN hs (g0, cr) [.slice (some ⟨g0, 0, none⟩) wd cr] (fun _ => True) (fun _ => False) _ (by simp) rfl rfl rfl (fun _ h => h.elim) (fun _ _ => trivial) hQ6.out hQ6.bel (Below.size hQ6.bel) (by have := hhl2.out; omega) ?_; intro v8 w8 hR8 hb8 hg8 hat8; obtain ⟨A8, c8, hv8⟩ := Kd.R_slice hR8; have ev8 : (hs ++ [(g0, cr)]).length = hs.length + 1 := (by simp); rw [ev8] at hv8; clear ev8; subst hv8; obtain ⟨b8, hQ8⟩ := hQ6.row hVs.out hgV.out hg8 hR8 hb8 hr7 ⟨hfr4.out.1, hfr4.out.2.1⟩ hfr4.out.2.2; have c83 : w8.cell? ⟨gV, 3, none⟩ = some vN := (blk_cell b8 3).trans rfl; have f83 : w8.frozen? ⟨gV, 3, none⟩ = false := blk_frozen b8 3))
       go_roundg (NN - (i + 1))
       case measure => have := hkq.out; omega
       case rel => exact ⟨i + 1, li2, tab2, some a7, c7, _, _, hs ++ [(g0, cr)], rws ++ [r], rfl, (by go_num), ⟨by simp⟩, by omega, hTab, ⟨by rw [hlm.out]; exact get_app m hli0.out⟩, ⟨by simp [hrl.out]⟩, ⟨fun q hq => (List.mem_append.1 hq).elim (hrw.out q) (fun h => by rw [List.mem_singleton.1 h]; exact hrc2.out)⟩, ⟨oks_step hlm.out hrl.out hlt hxi.out hok.out hro.out⟩, ⟨by rw [take_step hlm.out hlt hxi.out, List.map_append, List.map_singleton, hsx2.out, List.getD_eq_getElem?_getD (l := accs), List.getElem?_eq_getElem hsa, Option.getD_some, hbx.out]; exact hQ8⟩⟩
    ·have hii : i = li.length := by omega
     subst hii
     have hlt1 : ((li.length : Int) < (li.length : Int)) = False := eq_false (by omega)
     have hli := hTab.out.le
     have hhl : hs.length = li.length := by rw [hR.len]; exact hrl.out
     obtain ⟨AN2, cN2, rfl⟩ := Kd.R_slice hR.out
     rw [hhl] at hR
     have hhl2 := Aside0.mk hhl
     clear hhl
     go_wp2_with fail
     go_loopg [16] li.length (fun kq v16 wr => ∃ k : Nat, v16 = .int .i64 (k : Int) ∧ Aside0 (kq = li.length - k) ∧ k ≤ li.length ∧ Aside0 (Rt w gp #[.int .i64 tapes, .int .i64 start, .slice AA accs.length ca, .slice AN rows.length cn] tapes gV (.slice (some ⟨gT, 0, none⟩) NN cT) tab (.slice A7 li.length c7) (ints li) vA ((li.take li.length).map (fun x => accs.getD (x / size) false)) (.slice AN2 li.length cN2) hs (fixTo li.length k rws) wd wr))
     case atStart => exact ⟨0, rfl, ⟨by simp⟩, Nat.zero_le _, ⟨by simpa [fixTo] using hR⟩⟩
     case round =>
      clear hR
      obtain ⟨wb, rfl⟩ : ∃ wb : World, wb = wr := ⟨_, rfl⟩
      obtain ⟨k, rfl, hkk, hkl, hB⟩ := hrel
      replace hB := hB.out
      have c3 : wb.cell? ⟨gV, 3, none⟩ = some (.slice AN2 li.length cN2) := (blk_cell hB.bV 3).trans rfl
      by_cases hkt : k < li.length
      ·have hlt2 : ((k : Int) < (li.length : Int)) = True := eq_true (by omega)
       have h0k : (0 ≤ (k : Int)) = True := eq_true (by omega)
       have hk1 : k < hs.length := by rw [hhl2.out]; exact hkt
       have hk2 : k < rws.length := by rw [hrl.out]; exact hkt
       obtain ⟨a, ha⟩ : ∃ a, hs[k]? = some a := ⟨_, List.getElem?_eq_getElem hk1⟩
       obtain ⟨r, hr⟩ : ∃ r, rws[k]? = some r := ⟨_, List.getElem?_eq_getElem hk2⟩
       have hrw2 : Aside0 (r.length = wd) := ⟨hrw.out r (List.mem_of_getElem? hr)⟩
       have hag : Aside0 (w.heap.size ≤ a.1) := ⟨(row_blk (hB.inn k a _ ha (fixTo_get hr)) (by have := hrw2.out; omega)).1⟩
       have ha2 := Aside0.mk ha
       have hr2 := Aside0.mk hr
       have hst0 : rowTo li.length 0 r = r := by simp [rowTo]
       have hB0 : (fixTo li.length k rws).set k (rowTo li.length 0 r) = fixTo li.length k rws := by
        rw [hst0]
        have h := fixTo_get (L := li.length) hr
        obtain ⟨h1, h2⟩ := List.getElem?_eq_some_iff.1 h
        rw [← h2]
        exact List.set_getElem_self h1
       have hB1 := Aside0.mk hB0
       clear hB0 hst0 ha hr hk1 hk2
       go_wp2_with fail
       clear c3
       go_loopg [17] wd (fun kq v17 wq => ∃ c : Nat, v17 = .int .i64 (c : Int) ∧ Aside0 (kq = wd - c) ∧ c ≤ wd ∧ Aside0 (Rt w gp #[.int .i64 tapes, .int .i64 start, .slice AA accs.length ca, .slice AN rows.length cn] tapes gV (.slice (some ⟨gT, 0, none⟩) NN cT) tab (.slice A7 li.length c7) (ints li) vA ((li.take li.length).map (fun x => accs.getD (x / size) false)) (.slice AN2 li.length cN2) hs ((fixTo li.length k rws).set k (rowTo li.length c r)) wd wq))
       case atStart => exact ⟨0, rfl, ⟨by simp⟩, Nat.zero_le _, ⟨by rw [hB1.out]; exact hB⟩⟩
       case round =>
        obtain ⟨c, rfl, hkc, hcw, hQ⟩ := hrel
        replace hQ := hQ.out
        obtain ⟨an, rfl, kh⟩ := hQ.head ha2.out
        unfold encH at kh
        have c3 : wr.cell? ⟨gV, 3, none⟩ = some (.slice (some an) li.length cN2) := (blk_cell hQ.bV 3).trans rfl
        by_cases hcl : c < wd
        ·have hcr : c < r.length := by rw [hrw2.out]; exact hcl
         have hk3 : k < (fixTo li.length k rws).length := by rw [fixTo_length]; exact (List.getElem?_eq_some_iff.1 hr2.out).1
         have hset : ((fixTo li.length k rws).set k (rowTo li.length c r))[k]? = some (rowTo li.length c r) := List.getElem?_set_self hk3
         have hrow := hQ.inn k a _ ha2.out hset
         have ke := sr_at hrow (i := c) (by rw [rowTo_length]; exact hcr)
         rw [rowTo_get hcr] at ke
         obtain ⟨_, cells, hcell⟩ := row_blk hrow (by rw [rowTo_length]; omega)
         have fe : wr.frozen? ⟨a.1, c, none⟩ = false := blk_frozen hcell c
         have hcl1 : ((c : Int) < (wd : Int)) = True := eq_true (by omega)
         have h0c : (0 ≤ (c : Int)) = True := eq_true (by omega)
         by_cases hneg : r[c] < 0
         ·have hQ2 := hQ.fix ha2.out hset hag.out c (li.length : Int)
          have e5 : (rowTo li.length c r).set c (li.length : Int) = rowTo li.length (c + 1) r := by
           rw [rowTo_step hcr]
           unfold fixE
           rw [if_pos hneg]
          rw [List.set_set, e5] at hQ2
          have hn1 : (r[c] < 0) = True := eq_true hneg
          clear hset hrow hcell cells e5 hneg hk3
          generalize r[c] = ec at *
          clear hcr
          go_wp2_with fail
          go_roundg (wd - (c + 1))
          case measure => have := hkc.out; omega
          case rel => exact ⟨c + 1, (by go_num), ⟨by simp⟩, by omega, ⟨hQ2⟩⟩
         ·have hn1 : (r[c] < 0) = False := eq_false hneg
          rw [← rowTo_same hcr (by omega)] at hQ
          clear hset hrow hcell cells hneg hk3
          generalize r[c] = ec at *
          clear hcr
          go_wp2_with fail
          go_roundg (wd - (c + 1))
          case measure => have := hkc.out; omega
          case rel => exact ⟨c + 1, (by go_num), ⟨by simp⟩, by omega, ⟨hQ⟩⟩
        ·have hcc : c = wd := by omega
         subst hcc
         have hlt3 : ((c : Int) < (c : Int)) = False := eq_false (by omega)
         have hfin : (fixTo li.length k rws).set k (rowTo li.length c r) = fixTo li.length (k + 1) rws := by
          rw [← fixTo_set hr2.out]
          congr 1
          unfold rowTo
          rw [List.take_of_length_le (Nat.le_of_eq hrw2.out), List.drop_of_length_le (Nat.le_of_eq hrw2.out), List.append_nil]
         rw [hfin] at hQ
         clear hfin
         go_wp2_with fail
         go_roundg (li.length - (k + 1))
         case measure => have := hkk.out; omega
         case rel => exact ⟨k + 1, (by go_num), ⟨by simp⟩, by omega, ⟨hQ⟩⟩
      ·have hkk2 : k = li.length := by omega
       subst hkk2
       have hlt2 : ((li.length : Int) < (li.length : Int)) = False := eq_false (by omega)
       have hB2 := hB.step (below_alloc (Below.refl _ _) (.cells #[] 2))
       have hr6 := sr_zero wb w.heap.size (Below.size hB.bel)
       have hcl0 : Clear (.slice (some ⟨wb.heap.size, 0, none⟩) 0 0) (.slice (some ⟨gT, 0, none⟩) NN cT) (.slice A7 li.length c7) hs := by
        intro k hk
        cases hk
        exact ⟨fun e => by have := Kd.R_lt hB.tab _ e.symm; simp only at this; omega, fun e => by have := Kd.R_lt hB.lst _ e.symm; simp only at this; omega, fun h hh e => absurd (hB.lt hh hB.len) (by rw [e]; exact Nat.lt_irrefl _)⟩
       go_wp2_with fail
       clear c3
       go_loopg [18, 19] wd (fun kq v18 v19 wq => ∃ (c : Nat) (Ar : Option Addr) (cr : Nat), v18 = .slice Ar c cr ∧ v19 = .int .i64 (c : Int) ∧ Aside0 (kq = wd - c) ∧ c ≤ wd ∧ Aside0 (Clear (.slice Ar c cr) (.slice (some ⟨gT, 0, none⟩) NN cT) (.slice A7 li.length c7) hs) ∧ Aside0 (SR wq w.heap.size (.slice Ar c cr) (List.replicate c (li.length : Int))) ∧
        Aside0 (Rt w gp #[.int .i64 tapes, .int .i64 start, .slice AA accs.length ca, .slice AN rows.length cn] tapes gV (.slice (some ⟨gT, 0, none⟩) NN cT) tab (.slice A7 li.length c7) (ints li) vA ((li.take li.length).map (fun x => accs.getD (x / size) false)) (.slice AN2 li.length cN2) hs (fixTo li.length li.length rws) wd wq))
       case atStart => exact ⟨0, _, _, rfl, rfl, ⟨by simp⟩, Nat.zero_le _, ⟨hcl0⟩, ⟨hr6⟩, ⟨hB2⟩⟩
       case round =>
        clear hcl0 hr6 hB2 hB
        obtain ⟨c, Ar, cr, rfl, rfl, hkc, hcw, hfr, hr, hQ⟩ := hrel
        replace hQ := hQ.out
        replace hr := hr.out
        have e0 : wr.cell? ⟨gp, 0, none⟩ = some (.int .i64 tapes) := (blk_cell hQ.bP 0).trans rfl
        by_cases hc : c < wd
        ·have hlt3 : ((c : Int) < (wd : Int)) = True := eq_true (by omega)
         go_wp2_with (first
          | (go_at_call 60; (with_reducible refine (hwide _).mono ?_); rintro e w4 ⟨rfl, hb4⟩; replace hQ := hQ.step hb4; replace hr := Kd.R_below hr hb4; clear e0)
          | ((with_reducible refine gate_builtin (b := .append) (xs := #[.tmp 202, .tmp 204]) rfl ?_); go_loud (at_builtin; refine R_append' (Kd.int .i64) (w0 := w) w.heap.size rfl (.tmp 202) (.tmp 204) 86 2 (.int .i64 0) 8 rfl Tryd.underlying86 info_long rfl (by decide) (by decide) (.slice Ar c cr) (List.replicate c (li.length : Int)) (li.length : Int) [.int .i64 (li.length : Int)] (fun _ => True) (fun _ => False) _ (by simp) rfl rfl rfl (fun _ h => h.elim) (fun _ _ => trivial) hr hQ.bel (Below.size hQ.bel) (by simp <;> omega) ?_; intro v6 w6 hR6 hb6 hg6 hat6; obtain ⟨A6, c6, hv6⟩ := Kd.R_slice hR6; have ev : (List.replicate c (li.length : Int) ++ [(li.length : Int)]).length = c + 1 := (by simp); rw [ev] at hv6; clear ev; subst hv6; obtain ⟨hQ6, hf6⟩ := hQ.app hr hfr.out hg6 hat6 hb6; rw [← List.replicate_succ'] at hR6)))
         go_roundg (wd - (c + 1))
         case measure => have := hkc.out; omega
         case rel => exact ⟨c + 1, A6, c6, rfl, (by go_num), ⟨by simp⟩, by omega, ⟨hf6⟩, ⟨hR6⟩, ⟨hQ6⟩⟩
        ·have hcc : c = wd := by omega
         subst hcc
         have hlt3 : ((c : Int) < (c : Int)) = False := eq_false (by omega)
         rw [List.take_length] at hQ
         obtain ⟨A2, cA2, rfl⟩ := Kd.R_slice hQ.acc
         rw [List.length_map] at hQ
         obtain ⟨g0, cap, ev, hg0, _, _⟩ := Kd.R_form hr (by simp; omega)
         rw [List.length_replicate] at ev
         cases ev
         have hfr3 := Aside0.mk (hfr.out g0 rfl)
         go_wp2_with (first
          | (go_at_call 60; (with_reducible refine (hwide _).mono ?_); rintro e w4 ⟨rfl, hb4⟩; replace hQ := hQ.step hb4; replace hr := Kd.R_below hr hb4; clear e0; have c2 : w4.cell? ⟨gV, 2, none⟩ = some (.slice A2 li.length cA2) := (blk_cell hQ.bV 2).trans rfl)
          | ((with_reducible refine gate_builtin (b := .append) (xs := #[.tmp 207, .tmp 208]) rfl ?_); go_loud (at_builtin; refine R_append' Kd.bool (w0 := w) w.heap.size rfl (.tmp 207) (.tmp 208) 22 4 (.bool false) 1 rfl Tryd.underlying22 GwI.info_bool rfl (by decide) (by decide) (.slice A2 li.length cA2) (li.map (fun x => accs.getD (x / size) false)) false [.bool false] (fun _ => True) (fun _ => False) _ (by simp) rfl rfl rfl (fun _ h => h.elim) (fun _ _ => trivial) hQ.acc hQ.bel (Below.size hQ.bel) (by rw [List.length_map]; omega) ?_; intro v6 w6 hR6 hb6 hg6 hat6; obtain ⟨A6, c6, hv6⟩ := Kd.R_slice hR6; have ev : (li.map (fun x => accs.getD (x / size) false) ++ [false]).length = li.length + 1 := (by simp); rw [ev] at hv6; clear ev; subst hv6; obtain ⟨b26, hQ6⟩ := hQ.mark hVs.out hgV.out hg6 hR6 hb6; have hr6 : SR w6 w.heap.size _ _ := R_off hr (Keep.grown hg6) (Off.row hQ.acc (by decide)); have hr7 : SR (w6.setCell ⟨gV, 2, none⟩ (.slice A6 (li.length + 1) c6)) w.heap.size _ _ := R_off hr6 (Keep.set w6 ⟨gV, 2, none⟩ _) (Off.cells b26 (by decide)); have c26 : w6.cell? ⟨gV, 2, none⟩ = some (.slice A2 li.length cA2) := (blk_cell b26 2).trans rfl; have f26 : w6.frozen? ⟨gV, 2, none⟩ = false := blk_frozen b26 2; have c33 : (w6.setCell ⟨gV, 2, none⟩ (.slice A6 (li.length + 1) c6)).cell? ⟨gV, 3, none⟩ = some (.slice AN2 li.length cN2) := (blk_cell hQ6.bV 3).trans rfl))
          | ((with_reducible refine gate_builtin (b := .append) (xs := #[.tmp 212, .tmp 214]) rfl ?_); go_loud (at_builtin; refine R_append' (hk c) (w0 := w) w.heap.size rfl (.tmp 212) (.tmp 214) 23 86 (.slice none 0 0) 24 rfl Tryd.underlying23 info_longs rfl (show 0 < 1 from Nat.one_pos) (by decide) (.slice AN2 li.length cN2) hs (g0, cr) [.slice (some ⟨g0, 0, none⟩) c cr] (fun _ => True) (fun _ => False) _ (by simp) rfl rfl rfl (fun _ h => h.elim) (fun _ _ => trivial) hQ6.out hQ6.bel (Below.size hQ6.bel) (by have := hhl2.out; omega) ?_; intro v8 w8 hR8 hb8 hg8 hat8; obtain ⟨A8, c8, hv8⟩ := Kd.R_slice hR8; have ev8 : (hs ++ [(g0, cr)]).length = li.length + 1 := (by simp [hhl2.out]); rw [ev8] at hv8; clear ev8; subst hv8; obtain ⟨b8, hQ8⟩ := hQ6.row hVs.out hgV.out hg8 hR8 hb8 hr7 ⟨hfr3.out.1, hfr3.out.2.1⟩ hfr3.out.2.2; have c83 : w8.cell? ⟨gV, 3, none⟩ = some (.slice AN2 li.length cN2) := (blk_cell b8 3).trans rfl; have f83 : w8.frozen? ⟨gV, 3, none⟩ = false := blk_frozen b8 3; have d0 : (w8.setCell ⟨gV, 3, none⟩ (.slice A8 (li.length + 1) c8)).cell? ⟨gV, 0, none⟩ = some (.int .i64 tapes) := (blk_cell hQ8.bV 0).trans rfl; have d1 : (w8.setCell ⟨gV, 3, none⟩ (.slice A8 (li.length + 1) c8)).cell? ⟨gV, 1, none⟩ = some (.int .i64 0) := (blk_cell hQ8.bV 1).trans rfl; have d2 : (w8.setCell ⟨gV, 3, none⟩ (.slice A8 (li.length + 1) c8)).cell? ⟨gV, 2, none⟩ = some (.slice A6 (li.length + 1) c6) := (blk_cell hQ8.bV 2).trans rfl; have d3 : (w8.setCell ⟨gV, 3, none⟩ (.slice A8 (li.length + 1) c8)).cell? ⟨gV, 3, none⟩ = some (.slice A8 (li.length + 1) c8) := (blk_cell hQ8.bV 3).trans rfl; have e0 : (w8.setCell ⟨gV, 3, none⟩ (.slice A8 (li.length + 1) c8)).cell? ⟨w.heap.size, 0, none⟩ = some (.int .i64 0) := (blk_cell hQ8.bR 0).trans rfl; have f0 : (w8.setCell ⟨gV, 3, none⟩ (.slice A8 (li.length + 1) c8)).frozen? ⟨w.heap.size, 0, none⟩ = false := blk_frozen hQ8.bR 0; have e1 : (w8.setCell ⟨gV, 3, none⟩ (.slice A8 (li.length + 1) c8)).cell? ⟨w.heap.size, 1, none⟩ = some (.int .i64 0) := (blk_cell hQ8.bR 1).trans rfl; have f1 : (w8.setCell ⟨gV, 3, none⟩ (.slice A8 (li.length + 1) c8)).frozen? ⟨w.heap.size, 1, none⟩ = false := blk_frozen hQ8.bR 1; have e2 : (w8.setCell ⟨gV, 3, none⟩ (.slice A8 (li.length + 1) c8)).cell? ⟨w.heap.size, 2, none⟩ = some (.slice none 0 0) := (blk_cell hQ8.bR 2).trans rfl; have f2 : (w8.setCell ⟨gV, 3, none⟩ (.slice A8 (li.length + 1) c8)).frozen? ⟨w.heap.size, 2, none⟩ = false := blk_frozen hQ8.bR 2; have e3 : (w8.setCell ⟨gV, 3, none⟩ (.slice A8 (li.length + 1) c8)).cell? ⟨w.heap.size, 3, none⟩ = some (.slice none 0 0) := (blk_cell hQ8.bR 3).trans rfl; have f3 : (w8.setCell ⟨gV, 3, none⟩ (.slice A8 (li.length + 1) c8)).frozen? ⟨w.heap.size, 3, none⟩ = false := blk_frozen hQ8.bR 3)))
         have b := hQ8.bR
         have b1 := blk_put b 0 (.int .i64 tapes) rfl
         have b2 := blk_put b1 1 (.int .i64 0) rfl
         have b3 := blk_put b2 2 (.slice A6 (li.length + 1) c6) rfl
         have b5 := blk_put b3 3 (.slice A8 (li.length + 1) c8) rfl
         refine bodyPost_ret (results_cell_row rfl _ _ (w.heap.size) 29 #[.int .i64 tapes, .int .i64 0, .slice A6 (li.length + 1) c6, .slice A8 (li.length + 1) c8] (0, 0) _ rfl b5 Tryd.underlying29 rfl (by kernel_rfl)) rfl ⟨_, _, li, rws, rfl, ?_, ?_, by rw [hS02.out]; exact hli0.out, hrl.out, hrw.out, hok.out, fun x hx => by rw [hNN2.out]; exact hTab.out.lt x hx, by rw [hNN2.out]; exact hTab.out.le, ?_⟩
         ·exact Kd.R_set (Kd.R_set (Kd.R_set (Kd.R_set hQ8.acc b (by decide) 0 _) b1 (by decide) 1 _) b2 (by decide) 2 _) b3 (by decide) 3 _
         ·exact Kd.R_set (Kd.R_set (Kd.R_set (Kd.R_set hQ8.rows b (by decide) 0 _) b1 (by decide) 1 _) b2 (by decide) 2 _) b3 (by decide) 3 _
         ·exact (((hQ8.bel.setCell (Nat.le_refl _) _).setCell (Nat.le_refl _) _).setCell (Nat.le_refl _) _).setCell (Nat.le_refl _) _
end Go.Proofs.YtbamnonamdpooaaDoor.Rg
namespace Go.Proofs.YtbamnonamdpooaaDoor.Tw
set_option linter.unusedVariables false
set_option linter.unusedSimpArgs false
open Go.RowKit Go.Proofs.YtbamnonamdpooaaDoorW.PrintWords Go.Proofs.YtbamnonamdpooaaDoorW.PrintLast Go.Proofs.YtbamnonamdpooaaDoorW.PrintMore Go.Proofs.YtbamnonamdpooaaDoor.Mp Go.Proofs.YtbamnonamdpooaaDoor.Kp Go.Proofs.YtbamnonamdpooaaDoor.Mg Go.Proofs.YtbamnonamdpooaaDoor.Tdy Go.Proofs.YtbamnonamdpooaaDoor.Rg
def grpTo (accs : List Bool) (i : Nat) : List Nat := (first accs).take i ++ List.replicate (accs.length - i) 0
theorem grpTo_length (accs : List Bool) {i : Nat} (h : i ≤ accs.length) : (grpTo accs i).length = accs.length := by
 have : (first accs).length = accs.length := by simp [first]
 unfold grpTo
 rw [List.length_append, List.length_take, List.length_replicate]
 omega
theorem grpTo_all (accs : List Bool) : grpTo accs accs.length = first accs := by
 have : (first accs).length = accs.length := by simp [first]
 unfold grpTo
 rw [List.take_of_length_le (by omega)]
 simp
theorem first_len (accs : List Bool) : (first accs).length = accs.length := by simp [first]
theorem grpTo_zero (accs : List Bool) : grpTo accs 0 = List.replicate accs.length 0 := by simp [grpTo]
theorem grpTo_step (accs : List Bool) {i : Nat} (hi : i < accs.length) : grpTo accs (i + 1) = if accs[i] then (grpTo accs i).set i 1 else grpTo accs i := first_step accs hi rfl
def kyF (g : List Nat) (q : Nat) : Nat := g.getD q 0
def nxF (rows : List (List Nat)) (q c : Nat) : Nat := (rows.getD q []).getD c 0
def acF (accs : List Bool) (q : Nat) : Bool := accs.getD q false
theorem nxF_get {rows : List (List Nat)} {q c : Nat} (h : q < rows.length) (h2 : c < rows[q].length) : nxF rows q c = rows[q][c] := by simp [nxF, List.getD_eq_getElem?_getD, h, h2]
theorem kyF_get {g : List Nat} {q : Nat} (h : q < g.length) : kyF g q = g[q] := by simp [kyF, List.getD_eq_getElem?_getD, h]
theorem acF_get {accs : List Bool} {q : Nat} (h : q < accs.length) : acF accs q = accs[q] := by simp [acF, List.getD_eq_getElem?_getD, h]
theorem tab_find {key : Nat → Nat} {N : Nat} {li : List Nat} {tab : List Int} (h : Tab N (li.map key) tab) {t : Nat} (ht : key t < N) :
  (find key (key t) li = none ∧ tab[key t]? = some (-1) ∧ key t ∉ li.map key) ∨ ∃ j : Nat, find key (key t) li = some j ∧ tab[key t]? = some (j : Int) ∧ j < li.length := by
 rcases h.at_ _ ht with ⟨h1, h2⟩ | ⟨j, h1, h2⟩
 ·refine .inl ⟨?_, h1, h2⟩
  cases hf : find key (key t) li with
  | none => rfl
  | some j =>
   obtain ⟨hj, e⟩ := find_some hf
   exact absurd (List.mem_map.2 ⟨li[j], List.getElem_mem hj, e⟩) h2
 ·refine .inr ⟨j, ?_, h1, ?_⟩
  ·cases hf : find key (key t) li with
   | none =>
    obtain ⟨s, hs, e⟩ := List.mem_map.1 (List.mem_of_getElem? h2)
    exact absurd e (find_none hf s hs)
   | some j' =>
    obtain ⟨hj, e⟩ := find_some hf
    obtain ⟨hjl, e2⟩ := List.getElem?_eq_some_iff.1 h2
    have hnd := List.pairwise_iff_getElem.1 h.nodup
    have e3 : (li.map key)[j']'(by rw [List.length_map]; exact hj) = (li.map key)[j] := by rw [e2, List.getElem_map]; exact e
    rcases Nat.lt_trichotomy j' j with hlt | heq | hlt
    ·exact absurd e3 (hnd j' j (by rw [List.length_map]; exact hj) hjl hlt)
    ·rw [heq]
    ·exact absurd e3.symm (hnd j j' hjl (by rw [List.length_map]; exact hj) hlt)
  ·have := (List.getElem?_eq_some_iff.1 h2).1
   rwa [List.length_map] at this
theorem tab_push {key : Nat → Nat} {N : Nat} {li : List Nat} {tab : List Int} (h : Tab N (li.map key) tab) {t : Nat} (ht : key t < N) (hn : key t ∉ li.map key) : Tab N ((li ++ [t]).map key) (tab.set (key t) (li.length : Int)) := by
 have := h.push ht hn
 rwa [List.length_map, ← List.map_singleton, ← List.map_append] at this
theorem tab_le {key : Nat → Nat} {N : Nat} {li : List Nat} {tab : List Int} (h : Tab N (li.map key) tab) : li.length ≤ N := by
 have := h.le
 rwa [List.length_map] at this
theorem S_off {α : Type} {d : Kd α} {e : Nat} {W W' : World} {base : Nat} {ok : Nat → Prop} {v : Value} {xs : List α} {x : Option Nat} (h : Kd.S d e W base ok v xs) (hk : Keep W W' x) (ho : Off W x (e :: d.E)) : Kd.S d e W' base ok v xs :=
 Kd.S_mono (Kd.S_move (Kd.S_bound h) (fun k hk' => hk.blk k hk'.2.2.1 (fun he => by
  obtain ⟨_, _, _, q, hq, cells, hc⟩ := hk'
  exact ho k he.symm cells q hq hc))) (fun _ hk => hk.1)
theorem S_keepx {α : Type} {d : Kd α} {e : Nat} {W W' : World} {base : Nat} {ok : Nat → Prop} {v : Value} {xs : List α} {x : Option Nat} (h : Kd.S d e W base (fun k => ok k ∧ some k ≠ x) v xs) (hk : Keep W W' x) : Kd.S d e W' base (fun k => ok k ∧ some k ≠ x) v xs :=
 Kd.S_step h (fun k hk' hlt => hk.blk k hlt hk'.2)
theorem S_append' {P : Program} {ops : Array Oper} {rest : List Oper} {o : Oper} {a : Act} {Q : Exit → Act → World → Prop} {α : Type} (d : Kd α) {w0 W : World} (base : Nat) (hgd : o.guard = none) (s x : Operand) (t e : TypeId) (z : Value) (bytes : Nat)
  (ho : o.op = .call { callee := .builtin .append, args := #[s, x], argTypes := #[t, t] })
  (ht : P.underlying t = some (.slice e)) (hinfo : (P.info? e).map (fun i => (i.zero, i.size, i.bytes)) = some (some z, d.sz, bytes)) (hz : z.cells.size = d.sz) (hs0 : 0 < d.sz) (hb0 : 0 < bytes)
  (v : Value) (xs : List α) (p : α) (cs : List Value) (ok okp : Nat → Prop) (b : Nat) (hbs : b = W.heap.size) (hs : a.eval s = v) (hx : a.eval x = .slice (some ⟨b, 0, none⟩) 1 1) (hp : d.M W base okp p cs) (hokp : ∀ k, okp k → ok k ∧ some k ≠ v.ownBlock) (hfresh : ∀ k, W.heap.size ≤ k → ok k)
  (HO : Kd.S d e W base (fun k => ok k ∧ ¬ okp k) v xs) (HB : Below base w0 W) (hbase : base ≤ W.heap.size) (hl : (xs.length + 1) * bytes ≤ 140737488355328)
  (h : ∀ v1 w1, Kd.S d e w1 base ok v1 (xs ++ [p]) → Below base w0 w1 → W.grownBy w1 v.ownBlock → (v1.ownBlock = v.ownBlock ∨ ∃ b, v1.ownBlock = some b ∧ W.heap.size ≤ b) → wpList P ops Q rest (a.put o.dst v1) w1) :
  wpList P ops Q (o :: rest) a (W.alloc (.cells cs.toArray e)) := by
 subst hbs
 exact Kd.S_append d base hgd s x t e z bytes ho ht hinfo hz hs0 hb0 v xs p cs ok okp hs hx hp hokp hfresh HO HB hbase hl h
/-- What stands in memory while the machine is made: the new relation, the table, the list, the row. All of it is newer than w0. -/
structure Tt (w0 : World) (tapes : Int) (gV gT nT cT : Nat) (tab : List Int) (vL : Value) (li : List Nat) (vr : Value) (r : List Nat) (vA : Value) (bs : List Bool) (vN : Value) (rws : List (List Nat)) (W : World) : Prop where
 bV : W.heap[gV]? = some (.cells #[.int .i64 tapes, .int .i64 0, vA, vN] 29 (0, 0))
 tab : SR W w0.heap.size (.slice (some ⟨gT, 0, none⟩) nT cT) tab
 lst : SR W w0.heap.size vL (ints li)
 row : SR W w0.heap.size vr (ints r)
 acc : Kd.R Kd.bool 4 W w0.heap.size (fun _ => True) vA bs
 out : Kd.S (Kd.slice 2 (Kd.int .i64)) 86 W w0.heap.size (fun k => k ≠ gT ∧ some k ≠ vL.ownBlock ∧ some k ≠ vr.ownBlock) vN (rws.map ints)
 tl : some gT ≠ vL.ownBlock
 tr : some gT ≠ vr.ownBlock
 lr : ∀ k, vL.ownBlock = some k → some k ≠ vr.ownBlock
 hV : w0.heap.size ≤ gV
 bel : Below w0.heap.size w0 W
section
variable {w0 : World} {tapes : Int} {gV gT nT cT : Nat} {tab : List Int} {vL : Value} {li : List Nat} {vr : Value} {r : List Nat} {vA : Value} {bs : List Bool} {vN : Value} {rws : List (List Nat)} {W W' : World}
theorem Tt.step (h : Tt w0 tapes gV gT nT cT tab vL li vr r vA bs vN rws W) (hb : Below W.heap.size W W') : Tt w0 tapes gV gT nT cT tab vL li vr r vA bs vN rws W' :=
 ⟨blk_below h.bV hb, Kd.R_below h.tab hb, Kd.R_below h.lst hb, Kd.R_below h.row hb, Kd.R_below h.acc hb, Kd.S_below h.out hb, h.tl, h.tr, h.lr, h.hV, below_step h.bel hb⟩
/-- The table is written. -/
theorem Tt.set (h : Tt w0 tapes gV gT nT cT tab vL li vr r vA bs vN rws W) (hg : w0.heap.size ≤ gT) (i : Nat) (x : Int) : Tt w0 tapes gV gT nT cT (tab.set i x) vL li vr r vA bs vN rws (W.setCell ⟨gT, i, none⟩ (.int .i64 x)) := by
 have hk := Keep.set W ⟨gT, i, none⟩ (.int .i64 x)
 have hy : ∀ E : List Nat, (∀ q ∈ E, q ≠ 2) → Off W (some gT) E := fun E hE => Off.row h.tab hE
 have ho := S_keepx (x := some gT) (ok := fun k => k ≠ gT ∧ some k ≠ vL.ownBlock ∧ some k ≠ vr.ownBlock) (Kd.S_mono h.out (fun k hk => ⟨hk, fun e => hk.1 (Option.some.inj e)⟩)) hk
 exact ⟨hk.obj h.bV (off_ne h.bV (hy _ (by decide))), Kd.R_putn h.tab (i : Int) x, h.lst.move hk (fun k e e2 => by cases e2; exact h.tl e.symm), h.row.move hk (fun k e e2 => by cases e2; exact h.tr e.symm), R_off h.acc hk (hy _ (by decide)), Kd.S_mono ho (fun k hk => hk.1), h.tl, h.tr, h.lr, h.hV, h.bel.setCell hg _⟩
/-- A block of numbers that is written is none of the others. -/
theorem Tt.out_after (h : Tt w0 tapes gV gT nT cT tab vL li vr r vA bs vN rws W) {v v1 : Value} (hg : W.grownBy W' v.ownBlock) (hat : v1.ownBlock = v.ownBlock ∨ ∃ b, v1.ownBlock = some b ∧ W.heap.size ≤ b) {p : Nat → Prop} (hp : ∀ k, k ≠ gT ∧ some k ≠ vL.ownBlock ∧ some k ≠ vr.ownBlock → p k ∧ some k ≠ v.ownBlock) :
  Kd.S (Kd.slice 2 (Kd.int .i64)) 86 W' w0.heap.size (fun k => p k ∧ some k ≠ v1.ownBlock) vN (rws.map ints) := Kd.S_after (Kd.S_mono h.out hp) hg hat
/-- The list gets one more. -/
theorem Tt.push {v1 : Value} {x : Nat} (h : Tt w0 tapes gV gT nT cT tab vL li vr r vA bs vN rws W) (hgT : gT < W.heap.size) (hg : W.grownBy W' vL.ownBlock) (hat : v1.ownBlock = vL.ownBlock ∨ ∃ b, v1.ownBlock = some b ∧ W.heap.size ≤ b) (hR : SR W' w0.heap.size v1 (ints li ++ [(x : Int)])) (hb : Below w0.heap.size w0 W') : Tt w0 tapes gV gT nT cT tab v1 (li ++ [x]) vr r vA bs vN rws W' := by
 have hk := Keep.grown hg
 have hy : ∀ E : List Nat, (∀ q ∈ E, q ≠ 2) → Off W vL.ownBlock E := fun E hE => Off.row h.lst hE
 refine ⟨hk.obj h.bV (off_ne h.bV (hy _ (by decide))), h.tab.move hk (fun k e e2 => by cases e; exact h.tl e2), by simpa [ints, GwI.ints] using hR, h.row.move hk (fun k e e2 => h.lr k e2.symm e.symm), R_off h.acc hk (hy _ (by decide)), Kd.S_mono (h.out_after hg hat (p := fun k => k ≠ gT ∧ some k ≠ vr.ownBlock) (fun k hk => ⟨⟨hk.1, hk.2.2⟩, hk.2.1⟩)) (fun k hk => ⟨hk.1.1, hk.2, hk.1.2⟩), ne_after hat hgT h.tl, h.tr, fun k hk e => ?_, h.hV, hb⟩
 rcases hat with ha | ⟨b, ha, hbl⟩
 ·exact h.lr k (by rw [← ha]; exact hk) e
 ·rw [ha] at hk
  cases hk
  have := Kd.R_lt h.row _ e.symm
  omega
/-- The row gets one more. -/
theorem Tt.more {v1 : Value} {x : Nat} (h : Tt w0 tapes gV gT nT cT tab vL li vr r vA bs vN rws W) (hgT : gT < W.heap.size) (hg : W.grownBy W' vr.ownBlock) (hat : v1.ownBlock = vr.ownBlock ∨ ∃ b, v1.ownBlock = some b ∧ W.heap.size ≤ b) (hR : SR W' w0.heap.size v1 (ints r ++ [(x : Int)])) (hb : Below w0.heap.size w0 W') : Tt w0 tapes gV gT nT cT tab vL li v1 (r ++ [x]) vA bs vN rws W' := by
 have hk := Keep.grown hg
 have hy : ∀ E : List Nat, (∀ q ∈ E, q ≠ 2) → Off W vr.ownBlock E := fun E hE => Off.row h.row hE
 exact ⟨hk.obj h.bV (off_ne h.bV (hy _ (by decide))), h.tab.move hk (fun k e e2 => by cases e; exact h.tr e2), h.lst.move hk (fun k e e2 => h.lr k e e2), by simpa [ints, GwI.ints] using hR, R_off h.acc hk (hy _ (by decide)), Kd.S_mono (h.out_after hg hat (p := fun k => k ≠ gT ∧ some k ≠ vL.ownBlock) (fun k hk => ⟨⟨hk.1, hk.2.1⟩, hk.2.2⟩)) (fun k hk => ⟨hk.1.1, hk.1.2, hk.2⟩), h.tl, ne_after hat hgT h.tr, fun k hk => ne_after hat (Kd.R_lt h.lst _ hk) (h.lr k hk), h.hV, hb⟩
/-- A new row is begun. -/
theorem Tt.begin (h : Tt w0 tapes gV gT nT cT tab vL li (.slice none 0 0) [] vA bs vN rws W) (hgT : gT < W.heap.size) : Tt w0 tapes gV gT nT cT tab vL li (.slice (some ⟨W.heap.size, 0, none⟩) 0 0) [] vA bs vN rws (W.alloc (.cells #[] 2)) := by
 have h1 := h.step (below_alloc (Below.refl _ _) (.cells #[] 2))
 refine ⟨h1.bV, h1.tab, h1.lst, sr_zero W _ (Below.size h.bel), h1.acc, ?_, h.tl, fun e => ?_, fun k hk e => ?_, h.hV, h1.bel⟩
 ·exact Kd.S_mono (Kd.S_below (Kd.S_bound h.out) (below_alloc (Below.refl _ _) _)) (fun k hk => ⟨hk.1.1, hk.1.2.1, fun e => by have h3 := hk.2.2.1; have h4 : k = W.heap.size := Option.some.inj e; omega⟩)
 ·have h4 : gT = W.heap.size := Option.some.inj e
  omega
 ·have h3 := Kd.R_lt h.lst _ hk
  have h4 : k = W.heap.size := Option.some.inj e
  omega
/-- A mark is put behind the marks. -/
theorem Tt.mark {v1 : Value} {bs' : List Bool} (h : Tt w0 tapes gV gT nT cT tab vL li vr r vA bs vN rws W) (hg : W.grownBy W' vA.ownBlock) (hR : Kd.R Kd.bool 4 W' w0.heap.size (fun _ => True) v1 bs') (hb : Below w0.heap.size w0 W') :
  W'.heap[gV]? = some (.cells #[.int .i64 tapes, .int .i64 0, vA, vN] 29 (0, 0)) ∧ Tt w0 tapes gV gT nT cT tab vL li vr r v1 bs' vN rws (W'.setCell ⟨gV, 2, none⟩ v1) := by
 have hk := Keep.grown hg
 have hy : ∀ E : List Nat, (∀ q ∈ E, q ≠ 4) → Off W vA.ownBlock E := fun E hE => Off.row h.acc hE
 have bV := hk.obj h.bV (off_ne h.bV (hy _ (by decide)))
 refine ⟨bV, ?_⟩
 have hs := Keep.set W' ⟨gV, 2, none⟩ v1
 have p : ∀ E : List Nat, (∀ q ∈ E, q ≠ 29) → Off W' (some gV) E := fun E hE => Off.cells bV hE
 have mv : ∀ {v : Value} {xs : List Int}, SR W w0.heap.size v xs → SR (W'.setCell ⟨gV, 2, none⟩ v1) w0.heap.size v xs := fun h => R_off (R_off h hk (hy _ (by decide))) hs (p _ (by decide))
 exact ⟨blk_put bV 2 v1 rfl, mv h.tab, mv h.lst, mv h.row, R_off hR hs (p _ (by decide)), S_off (S_off h.out hk (hy _ (by decide))) hs (p _ (by decide)), h.tl, h.tr, h.lr, h.hV, hb.setCell h.hV _⟩
/-- The row is put behind the rows. -/
theorem Tt.nxt {v1 : Value} (h : Tt w0 tapes gV gT nT cT tab vL li vr r vA bs vN rws W) (hg : W.grownBy W' vN.ownBlock) (hR : Kd.S (Kd.slice 2 (Kd.int .i64)) 86 W' w0.heap.size (fun k => k ≠ gT ∧ some k ≠ vL.ownBlock) v1 (rws.map ints ++ [ints r])) (hb : Below w0.heap.size w0 W') :
  W'.heap[gV]? = some (.cells #[.int .i64 tapes, .int .i64 0, vA, vN] 29 (0, 0)) ∧ Tt w0 tapes gV gT nT cT tab vL li (.slice none 0 0) [] vA bs v1 (rws ++ [r]) (W'.setCell ⟨gV, 3, none⟩ v1) := by
 have hk := Keep.grown hg
 have hy : ∀ E : List Nat, (∀ q ∈ E, q ≠ 86) → Off W vN.ownBlock E := fun E hE => Off.row (Kd.S_R h.out) hE
 have bV := hk.obj h.bV (off_ne h.bV (hy _ (by decide)))
 refine ⟨bV, ?_⟩
 have hs := Keep.set W' ⟨gV, 3, none⟩ v1
 have p : ∀ E : List Nat, (∀ q ∈ E, q ≠ 29) → Off W' (some gV) E := fun E hE => Off.cells bV hE
 have mv : ∀ {v : Value} {xs : List Int}, SR W w0.heap.size v xs → SR (W'.setCell ⟨gV, 3, none⟩ v1) w0.heap.size v xs := fun h => R_off (R_off h hk (hy _ (by decide))) hs (p _ (by decide))
 exact ⟨blk_put bV 3 v1 rfl, mv h.tab, mv h.lst, Kd.R_nil _ _ _ _ _, R_off (R_off h.acc hk (hy _ (by decide))) hs (p _ (by decide)), Kd.S_mono (ok := fun k => k ≠ gT ∧ some k ≠ vL.ownBlock) (S_off (by simpa using hR) hs (p _ (by decide))) (fun k hk => ⟨hk.1, hk.2, fun e => by cases e⟩), h.tl, (fun e => by cases e), (fun k _ e => by cases e), h.hV, hb.setCell h.hV _⟩
end
end Go.Proofs.YtbamnonamdpooaaDoor.Tw
