/- Parts of the proof, put together by a program of the session. -/
import Derived.Test.YtnjdkhnepmmfgaaDoorCore0
import Derived.Test.YtnjdkhnepmmfgaaDoorCWords
import Derived.Test.YtnjdkhnepmmfgaaDoorCLast
import Derived.Lib.SlicesS
import Derived.Test.YtnjdkhnepmmfgaaDoorProg
import Derived.Below
import Derived.Deep.Draws
import Derived.Deep.AppendLies
import Derived.Maps.AppendAt
import Derived.OwnWalk
import Derived.Laws.BytesArg
import Derived.Laws.MakeOwn
import Derived.Laws.OwnMore
import Derived.Deep.OwnRows
import Derived.Tactics
import Derived.Lib.ConvBytes
import Derived.Laws.Slices
import Derived.WalkKit
import Derived.KernelRfl
import Derived.RowKit3
import Derived.Deep.LoopGhost
import Derived.Deep.QuietTactic
import Derived.BigQuiet
import Derived.WideLaws
import Derived.Deep.DeepCutAuto
import Derived.Deep.CutBlock
import Derived.Deep.RegionHeld3
import Derived.Laws.Rows
import Derived.Lib.AppendStr
import Derived.ArgAppend
import Derived.Laws.IdiomCopy
import Derived.OrdersHeld
import Derived.Laws.BitsLemmas
import Derived.RowKit
import Derived.ChangeKeysEq
import Derived.Test.YtnjdkhnepmmfgaaDoorCTab
import Derived.Test.YtnjdkhnepmmfgaaDoorCFour
import Derived.Test.YtnjdkhnepmmfgaaDoorCQPut
import Derived.Test.YtnjdkhnepmmfgaaDoorCApart
import Derived.Test.YtnjdkhnepmmfgaaDoorCArr
import Derived.Test.YtnjdkhnepmmfgaaDoorCZeros
import Derived.Test.YtnjdkhnepmmfgaaDoorCFoot
import Derived.Test.YtnjdkhnepmmfgaaDoorCKept
import Derived.Test.YtnjdkhnepmmfgaaDoorCShare
import Derived.Test.YtnjdkhnepmmfgaaDoorCN
import Derived.Test.YtnjdkhnepmmfgaaDoorCFootNe
import Derived.Test.YtnjdkhnepmmfgaaDoorCAt
import Derived.Test.YtnjdkhnepmmfgaaDoorCEqStruct
import Derived.Test.YtnjdkhnepmmfgaaDoorCRepsOne
import Derived.Test.YtnjdkhnepmmfgaaDoorCInv
import Derived.Test.YtnjdkhnepmmfgaaDoorCInvWords
import Derived.Test.YtnjdkhnepmmfgaaDoorCGuard
import Derived.Test.YtnjdkhnepmmfgaaDoorCNEv
import Derived.Test.YtnjdkhnepmmfgaaDoorCMore
import Derived.Test.YtnjdkhnepmmfgaaDoorCore1
namespace Go.Proofs.YtnjdkhnepmmfgaaDoor.Pure
set_option linter.unusedVariables false
set_option linter.unusedSimpArgs false
open Go.RowKit Go.Proofs.YtnjdkhnepmmfgaaDoorW.PrintWords
/-- A step of a loop whose body is told at 'k + 1'. -/
theorem ev_step {α : Type} {g f : Nat → Option α} {r : α} (h : ∀ k, g (k + 1) = f k) (k : Ev f r) : Ev g r := Ev.step h k
theorem ev_const {α : Type} {g : Nat → Option α} {r : α} (h : ∀ k, g (k + 1) = some r) : Ev g r := Ev.step h (Ev.now r)
/-- A step whose body calls. -/
theorem ev_call {α β : Type} {g : Nat → Option α} {c : Nat → Option β} {f : Nat → β → Option α} {b : β} {r : α} (hc : Ev c b) (h : Ev (fun k => f k b) r) (hg : ∀ k, g k = (c k).bind (f k)) : Ev g r :=
 Ev.congr hg (Ev.bind hc h)
theorem ev_some {α β : Type} {c : Option β} {g : Nat → Option α} {f : Nat → β → Option α} {b : β} {r : α} (hc : c = some b) (h : Ev (fun k => f k b) r) (hg : ∀ k, g k = c.bind (f k)) : Ev g r :=
 Ev.congr (fun k => by rw [hg k, hc]; rfl) h
theorem ev_ift {α : Type} {c : Prop} [Decidable c] {x y : Nat → Option α} {r : α} (hc : c) (h : Ev x r) : Ev (fun k => if c then x k else y k) r := Ev.congr (fun _ => if_pos hc) h
theorem ev_iff {α : Type} {c : Prop} [Decidable c] {x y : Nat → Option α} {r : α} (hc : ¬ c) (h : Ev y r) : Ev (fun k => if c then x k else y k) r := Ev.congr (fun _ => if_neg hc) h
/-- A loop over an index from 0 on. -/
theorem ev_up {σ ρ : Type} (l : Nat → Int → σ → Option ρ) (n : Nat) (s : Nat → σ) (r : ρ) (hend : Ev (fun k => l k (n : Int) (s n)) r)
  (hstep : ∀ i, i < n → Ev (fun k => l k ((i : Int) + 1) (s (i + 1))) r → Ev (fun k => l k (i : Int) (s i)) r) : Ev (fun k => l k 0 (s 0)) r := by
 have key : ∀ d i, d + i = n → Ev (fun k => l k (i : Int) (s i)) r := by
  intro d
  induction d with
  | zero => intro i hi; obtain rfl : i = n := (by omega); exact hend
  | succ d ih =>
   intro i hi
   exact hstep i (by omega) (by have := ih (i + 1) (by omega); simpa using this)
 exact key n 0 (by omega)
/-- A loop that copies an element a round. -/
theorem ev_copy {α : Type} (l : Nat → List α → Int → Option (List α)) (xs : List α) (z : α)
  (hend : ∀ ys, ys.length = xs.length → Ev (fun k => l k ys (xs.length : Int)) ys)
  (hstep : ∀ (i : Nat) (hi : i < xs.length) (ys : List α) (r : List α), ys.length = xs.length → Ev (fun k => l k (ys.set i xs[i]) ((i : Int) + 1)) r → Ev (fun k => l k ys (i : Int)) r) :
  Ev (fun k => l k (List.replicate xs.length z) 0) xs := by
 have hs : ∀ i, i < xs.length → (xs.take i ++ List.replicate (xs.length - i) z).set i (xs.getD i z) = xs.take (i + 1) ++ List.replicate (xs.length - (i + 1)) z := by
  intro i hi
  have e : xs.length - i = (xs.length - (i + 1)) + 1 := by omega
  have ht : (xs.take i).length = i := by simp; omega
  rw [e, List.replicate_succ, List.set_append_right _ _ (by omega), ht, Nat.sub_self, List.set_cons_zero]
  have eg : xs.getD i z = xs[i] := by simp [List.getD, List.getElem?_eq_getElem hi]
  rw [eg, List.take_succ_eq_append_getElem hi, List.append_assoc]
  rfl
 have := ev_up (fun k i ys => l k ys i) xs.length (fun i => xs.take i ++ List.replicate (xs.length - i) z) xs (by
   have := hend (xs.take xs.length ++ List.replicate (xs.length - xs.length) z) (by simp)
   simpa using this)
  (fun i hi h => hstep i hi _ _ (by simp; omega) (by
   have e := hs i hi
   have eg : xs.getD i z = xs[i] := by simp [List.getD, List.getElem?_eq_getElem hi]
   rw [eg] at e
   rw [e]
   exact h))
 simpa using this
theorem wrap_up {i : Nat} (h : i < 9223372036854775807) : wrap64 ((i : Int) + 1) = (i : Int) + 1 := by unfold wrap64; omega
theorem wrap_id {i : Int} (h0 : -9223372036854775808 ≤ i) (h : i ≤ 9223372036854775807) : wrap64 i = i := by unfold wrap64; omega
theorem rd_nat (xs : List Int) (i : Nat) (h : i < xs.length) : rd xs (i : Int) = xs[i] := by
 unfold rd; simp [List.getD, List.getElem?_eq_getElem h]
theorem rdOf_nat {α : Type} (d : α) (xs : List α) (i : Nat) (h : i < xs.length) : rdOf d xs (i : Int) = xs[i] := by
 unfold rdOf; simp [List.getD, List.getElem?_eq_getElem h]
theorem getD_nat {α : Type} (xs : List α) (d : α) (i : Nat) (h : i < xs.length) : xs.getD ((i : Int).toNat) d = xs[i] := by
 simp [List.getD, List.getElem?_eq_getElem h]
end Go.Proofs.YtnjdkhnepmmfgaaDoor.Pure
namespace Go.Proofs.YtnjdkhnepmmfgaaDoor.PB1
open Go.RowKit Go.Proofs.YtnjdkhnepmmfgaaDoorW.PrintWords Go.Proofs.YtnjdkhnepmmfgaaDoorW.PrintLast Go.Proofs.YtnjdkhnepmmfgaaDoorW.PrintMore
attribute [local go_sem] max2_int min2_int max_two min_two max_three min_three max_four min_four   -- for this text's walks alone
set_option linter.unusedVariables false
set_option linter.unusedSimpArgs false
def errW : Option Int → Value
 | none => .nilIface
 | some c => .iface 0 (.int .i64 c)
theorem errW_none : errW none = .nilIface := rfl
theorem errW_some (c : Int) : errW (some c) = .iface 0 (.int .i64 c) := rfl
theorem info3 : (Tryd.prog.info? 3).map (fun i => (i.zero, i.size, i.bytes)) = some (some (.int .i64 0), 1, 8) := by kernel_rfl
end Go.Proofs.YtnjdkhnepmmfgaaDoor.PB1
namespace Go.Proofs.YtnjdkhnepmmfgaaDoor.PB1
open Go.RowKit Go.Proofs.YtnjdkhnepmmfgaaDoorW.PrintWords Go.Proofs.YtnjdkhnepmmfgaaDoorW.PrintLast Go.Proofs.YtnjdkhnepmmfgaaDoorW.PrintMore
attribute [local go_sem] max2_int min2_int max_two min_two max_three min_three max_four min_four   -- for this text's walks alone
set_option linter.unusedVariables false
set_option linter.unusedSimpArgs false
/-! ### impl_powerOf: function 110 -/
def impl_powerOf.l0 : Nat → Int → Int → Option (Int)
 | 0, _, _ => none
 | k + 1, x0, x3 => if x0 > 0 then (impl_powerOf.l0 k (wrap64 (x0 - 1)) (wrap64 (x3 * 3))) else (some x3)
def impl_powerOf.f (k : Nat) (a0 : Int) : Option (Int) := impl_powerOf.l0 k a0 1
theorem impl_powerOf.mono_l : ∀ k, (∀ y0 y1, LeO (impl_powerOf.l0 k y0 y1) (impl_powerOf.l0 (k + 1) y0 y1))
 | 0 => fun _ _ r h => by simp [impl_powerOf.l0] at h
 | k + 1 => by
  have ih0 := impl_powerOf.mono_l k
  ·intro y0 y1
   unfold impl_powerOf.l0
   repeat' first
   | (with_reducible exact ih0 _ _)
   | (with_reducible exact LeO.refl _)
   | (with_reducible exact LeO.none _)
   | (with_reducible refine LeO.ite ?_ ?_)
   | (with_reducible refine LeO.bind ?_ (fun _ => ?_))
   | exact ih0 _ _
   | exact LeO.none _
   | refine LeO.ite ?_ ?_
   | refine LeO.bind ?_ (fun _ => ?_)
theorem impl_powerOf.mono : ∀ a0 k, LeO (impl_powerOf.f k a0) (impl_powerOf.f (k + 1) a0) := by
 intro a0 k
 have ih0 := impl_powerOf.mono_l k
 unfold impl_powerOf.f
 repeat' first
   | (with_reducible exact ih0 _ _)
   | (with_reducible exact LeO.refl _)
   | (with_reducible exact LeO.none _)
   | (with_reducible refine LeO.ite ?_ ?_)
   | (with_reducible refine LeO.bind ?_ (fun _ => ?_))
   | exact ih0 _ _
   | exact LeO.none _
   | refine LeO.ite ?_ ?_
   | refine LeO.bind ?_ (fun _ => ?_)
set_option maxHeartbeats 8000000 in
set_option maxRecDepth 100000 in
theorem impl_powerOf.calls (k : Nat) (a0 : Int) (r : Int) (w : World) (h : impl_powerOf.f k a0 = some r) :
  Calls Tryd.prog 110 #[.int .i64 a0] w fun e w' => e = .returned (.int .i64 r) ∧ Drawn0 w w' := by
 have H : (impl_powerOf.l0 k a0 1) = some r := h
 clear h
 have H' := Aside0.mk H
 clear H
 go_enter Tryd.func110, Tryd.ntmps110
 go_wp2
 go_loopg [0, 3] k (fun kq v0 v3 w' => ∃ (x0_1 : Int) (x3_1 : Int), v0 = .int .i64 x0_1 ∧ v3 = .int .i64 x3_1 ∧ Aside0 (impl_powerOf.l0 kq x0_1 x3_1 = some r) ∧ Aside0 (kq ≤ k) ∧ Drawn0 w w')
 case atStart => exact ⟨(a0), (1), (by first | rfl | (simp; done) | (simp [*]; done) | (simp [wrap64]; done)), (by first | rfl | (simp; done) | (simp [*]; done) | (simp [wrap64]; done)), H', ⟨Nat.le_refl _⟩, by repeat (first | exact Drawn0.refl _ | apply Drawn0.step)⟩
 case round =>
  clear H'
  try clear c1
  obtain ⟨x0_1, x3_1, rfl, rfl, HA, HK1, ⟨m1, rfl⟩⟩ := hrel
  cases gk with
  | zero => exact absurd HA.out (by simp [impl_powerOf.l0])
  | succ k1 =>
   have H := HA.out
   clear HA
   simp only [impl_powerOf.l0] at H
   by_cases c2 : x0_1 > 0
   ·rw [if_pos c2] at H
    have c2b0 : decide (0 < x0_1) = true := decide_eq_true c2
    clear c2
    have H' := Aside0.mk H
    clear H
    go_wp2
    go_roundg k1
    case measure => have := HK1.out; omega
    case rel => exact ⟨(wrap64 (x0_1 - 1)), (wrap64 (x3_1 * 3)), (by first | rfl | (simp; done) | (simp [*]; done) | (simp [wrap64]; done)), (by first | rfl | (simp; done) | (simp [*]; done) | (simp [wrap64]; done)), H', ⟨by have := HK1.out; omega⟩, by repeat (first | exact Drawn0.refl _ | apply Drawn0.step)⟩
   ·rw [if_neg c2] at H
    have c2b0 : decide (0 < x0_1) = false := decide_eq_false c2
    clear c2
    obtain rfl := Option.some.inj H
    simp only [Option.some.injEq, Prod.mk.injEq] at H
    obtain ⟨rfl⟩ := H
    go_wp2
    go_ret
    exact ⟨by first | rfl | (simp; done) | (simp [*]; done) | (simp [wrap64]; done), by repeat (first | exact Drawn0.refl _ | apply Drawn0.step)⟩
/-! ### impl_widthOf: function 94 -/
def impl_widthOf.f (k : Nat) (a0 : Int) : Option (Int) := (impl_powerOf.f k a0).bind fun t101 => (some (wrap64 (t101 - 1)))
theorem impl_widthOf.mono : ∀ a0 k, LeO (impl_widthOf.f k a0) (impl_widthOf.f (k + 1) a0) := by
 intro a0 k
 unfold impl_widthOf.f
 repeat' first
   | (with_reducible exact impl_powerOf.mono _ _)
   | (with_reducible exact LeO.refl _)
   | (with_reducible exact LeO.none _)
   | (with_reducible refine LeO.ite ?_ ?_)
   | (with_reducible refine LeO.bind ?_ (fun _ => ?_))
   | exact impl_powerOf.mono _ _
   | exact LeO.none _
   | refine LeO.ite ?_ ?_
   | refine LeO.bind ?_ (fun _ => ?_)
set_option maxHeartbeats 8000000 in
set_option maxRecDepth 100000 in
theorem impl_widthOf.calls (k : Nat) (a0 : Int) (r : Int) (w : World) (h : impl_widthOf.f k a0 = some r) :
  Calls Tryd.prog 94 #[.int .i64 a0] w fun e w' => e = .returned (.int .i64 r) ∧ Drawn0 w w' := by
 have H : ((impl_powerOf.f k a0).bind fun t101 => (some (wrap64 (t101 - 1)))) = some r := h
 clear h
 replace H := Option.bind_eq_some_iff.mp H
 obtain ⟨t101, A20, H⟩ := H
 replace H : (some (wrap64 (t101 - 1))) = some r := H
 have A2 := Aside0.mk A20
 clear A20
 obtain rfl := Option.some.inj H
 simp only [Option.some.injEq, Prod.mk.injEq] at H
 obtain ⟨rfl⟩ := H
 go_enter Tryd.func94, Tryd.ntmps94
 go_wp2_with (first | ((with_reducible refine gate_callee (f := 110) rfl ?_); refine goesL_ (some 4) rfl rfl Tryd.func110 (by kernel_rfl) rfl #[.int .i64 a0] rfl (by (try simp only [List.map_toArray, List.map_cons, List.map_nil]); first | done | rfl | (simp only [List.length_drop, List.length_take]; rfl)) ?_; (with_reducible refine (impl_powerOf.calls k a0 t101 _ A2.out).mono ?_); rintro e w' ⟨rfl, ⟨nd, rfl⟩⟩; refine ⟨_, rfl, ?_⟩))
 go_ret
 exact ⟨by first | rfl | (simp; done) | (simp [*]; done) | (simp [wrap64]; done), by repeat (first | exact Drawn0.refl _ | apply Drawn0.step)⟩
/-! ### impl_digitsOf: function 62 -/
def impl_digitsOf.l0 : Nat → Int → Int → List Int → Option (List Int)
 | 0, _, _, _ => none
 | k + 1, x0, x1, x5 => if x0 > 0 then (if x5.length < 17592186044416 then (impl_digitsOf.l0 k (wrap64 (x0 - 1)) (wrap64 (Int.tdiv x1 3)) (x5 ++ [Int.tmod x1 3])) else (none)) else (some x5)
def impl_digitsOf.f (k : Nat) (a0 : Int) (a1 : Int) : Option (List Int) := impl_digitsOf.l0 k a0 a1 ([] : List Int)
theorem impl_digitsOf.mono_l : ∀ k, (∀ y0 y1 y2, LeO (impl_digitsOf.l0 k y0 y1 y2) (impl_digitsOf.l0 (k + 1) y0 y1 y2))
 | 0 => fun _ _ _ r h => by simp [impl_digitsOf.l0] at h
 | k + 1 => by
  have ih0 := impl_digitsOf.mono_l k
  ·intro y0 y1 y2
   unfold impl_digitsOf.l0
   repeat' first
   | (with_reducible exact ih0 _ _ _)
   | (with_reducible exact LeO.refl _)
   | (with_reducible exact LeO.none _)
   | (with_reducible refine LeO.ite ?_ ?_)
   | (with_reducible refine LeO.bind ?_ (fun _ => ?_))
   | exact ih0 _ _ _
   | exact LeO.none _
   | refine LeO.ite ?_ ?_
   | refine LeO.bind ?_ (fun _ => ?_)
theorem impl_digitsOf.mono : ∀ a0 a1 k, LeO (impl_digitsOf.f k a0 a1) (impl_digitsOf.f (k + 1) a0 a1) := by
 intro a0 a1 k
 have ih0 := impl_digitsOf.mono_l k
 unfold impl_digitsOf.f
 repeat' first
   | (with_reducible exact ih0 _ _ _)
   | (with_reducible exact LeO.refl _)
   | (with_reducible exact LeO.none _)
   | (with_reducible refine LeO.ite ?_ ?_)
   | (with_reducible refine LeO.bind ?_ (fun _ => ?_))
   | exact ih0 _ _ _
   | exact LeO.none _
   | refine LeO.ite ?_ ?_
   | refine LeO.bind ?_ (fun _ => ?_)
set_option maxHeartbeats 8000000 in
set_option maxRecDepth 100000 in
theorem impl_digitsOf.calls (k : Nat) (a0 : Int) (a1 : Int) (r : List Int) (w : World) (h : impl_digitsOf.f k a0 a1 = some r) :
  Calls Tryd.prog 62 #[.int .i64 a0, .int .i64 a1] w fun e w' => ∃ v0_ : Value, e = .returned (v0_) ∧ Kd.R (Kd.int .i64) 3 w' w.heap.size (fun _ => True) v0_ r ∧ Below w.heap.size w w' := by
 have HB := Aside0.mk (Below.refl w.heap.size w)
 have H : (impl_digitsOf.l0 k a0 a1 ([] : List Int)) = some r := h
 clear h
 have H' := Aside0.mk H
 clear H
 go_enter Tryd.func62, Tryd.ntmps62
 go_wp2
 go_loopg [0, 1, 5] k (fun kq v0 v1 v5 w' => ∃ (x0_1 : Int) (x1_1 : Int) (x5_1 : List Int), v0 = .int .i64 x0_1 ∧ v1 = .int .i64 x1_1 ∧ Aside0 (impl_digitsOf.l0 kq x0_1 x1_1 x5_1 = some r) ∧ Aside0 (kq ≤ k) ∧ Aside0 (Kd.R (Kd.int .i64) 3 w' w.heap.size (fun _ => True) v5 x5_1) ∧ Aside0 (Below w.heap.size w w'))
 case atStart => exact ⟨(a0), (a1), (([] : List Int)), (by first | rfl | (simp; done) | (simp [*]; done) | (simp [wrap64]; done)), (by first | rfl | (simp; done) | (simp [*]; done) | (simp [wrap64]; done)), H', ⟨Nat.le_refl _⟩, ⟨by first | exact Kd.R_nil _ _ _ _ _ | exact Kd.N_nil _ _ _ _ _ | exact Kd.V_nil _ _ _ _ _ | exact Kd.Q_nil _ _ _ _ _ | exact Kd.S_nil _ _ _ _ _⟩, ⟨by repeat (first | (with_reducible first | exact HB.out | apply below_alloc | apply pw_below_drewN | apply below_drew1) | exact HB.out)⟩⟩
 case round =>
  clear H'
  try clear p2
  obtain ⟨x0_1, x1_1, x5_1, rfl, rfl, HA, HK1, HO_5, HB⟩ := hrel
  cases gk with
  | zero => exact absurd HA.out (by simp [impl_digitsOf.l0])
  | succ k1 =>
   have H := HA.out
   clear HA
   simp only [impl_digitsOf.l0] at H
   by_cases c3 : x0_1 > 0
   ·rw [if_pos c3] at H
    have c3b0 : decide (0 < x0_1) = true := decide_eq_true c3
    clear c3
    by_cases c4 : x5_1.length < 17592186044416
    ·rw [if_pos c4] at H
     have LMc4 := Aside0.mk c4
     clear c4
     obtain ⟨y102, hy102⟩ : ∃ y_ : List Int, y_ = (x5_1 ++ [Int.tmod x1_1 3]) := ⟨_, rfl⟩
     replace H : (impl_digitsOf.l0 k1 (wrap64 (x0_1 - 1)) (wrap64 (Int.tdiv x1_1 3)) y102) = some r := by first | (rw [hy102]; with_reducible exact H) | (have H2_ := (Option.bind_some _ _).symm.trans H; rw [hy102]; with_reducible exact H2_) | (have H2_ := (Option.bind_some _ _).symm.trans H; with_reducible exact H2_) | with_reducible exact H | (rw [hy102]; exact H) | exact H
     have Ny102 := Aside0.mk hy102
     clear hy102
     have H' := Aside0.mk H
     clear H
     go_wp2_with (first | ((with_reducible refine gate_builtin (b := .append) (xs := #[.tmp 10, .tmp 13]) rfl ?_); at_builtin; refine Kd.R_append (Kd.int .i64) (w0 := w) w.heap.size rfl (.tmp 10) (.tmp 13) 87 3 (.int .i64 0) 8 rfl Tryd.underlying87 info3 rfl (by decide) (by omega) u5 x5_1 (Int.tmod x1_1 3) [.int .i64 (Int.tmod x1_1 3)] (fun _ => True) (fun _ => False) rfl rfl ?aP (fun _ hk => hk.elim) ?aF ?aO ?aB ?aS ?aL ?_; (case aP => exact rfl); (case aB => exact (by repeat (first | (with_reducible first | exact HB.out | apply below_alloc | apply pw_below_drewN | apply below_drew1) | exact HB.out))); (case aF => exact (fun _ _ => trivial)); (case aO => exact (by (with_reducible repeat (first | apply Kd.R_alloc | apply Kd.R_drewN | apply Kd.R_drew)); exact HO_5.out)); (case aS => exact (below_size (by repeat (first | (with_reducible first | exact HB.out | apply below_alloc | apply pw_below_drewN | apply below_drew1) | exact HB.out)))); (case aL => have := LMc4.out; omega); intro v103 w5 ho hb hg hat; rw [← Ny102.out] at ho; have n0_ := Aside0.mk (hb); have n1_ := Aside0.mk (ho); clear HB; clear HO_5; have HB := n0_; have HO104 := n1_; clear n0_ n1_; clear ho hb hg hat))
     go_roundg k1
     case measure => have := HK1.out; omega
     case rel => exact ⟨(wrap64 (x0_1 - 1)), (wrap64 (Int.tdiv x1_1 3)), (y102), (by first | rfl | (simp; done) | (simp [*]; done) | (simp [wrap64]; done)), (by first | rfl | (simp; done) | (simp [*]; done) | (simp [wrap64]; done)), H', ⟨by have := HK1.out; omega⟩, ⟨by (with_reducible repeat (first | apply Kd.R_alloc | apply Kd.R_drewN | apply Kd.R_drew)); exact HO104.out⟩, ⟨by repeat (first | (with_reducible first | exact HB.out | apply below_alloc | apply pw_below_drewN | apply below_drew1) | exact HB.out)⟩⟩
    ·rw [if_neg c4] at H
     exact absurd H (by simp)
   ·rw [if_neg c3] at H
    have c3b0 : decide (0 < x0_1) = false := decide_eq_false c3
    clear c3
    obtain rfl := Option.some.inj H
    simp only [Option.some.injEq, Prod.mk.injEq] at H
    obtain ⟨rfl⟩ := H
    go_wp2
    go_ret
    exact ⟨_, by first | rfl | (simp [errW_none, errW_some] <;> rfl) | (simp [*, errW_none, errW_some] <;> rfl), by (with_reducible repeat (first | apply Kd.R_alloc | apply Kd.R_drewN | apply Kd.R_drew)); exact HO_5.out, by repeat (first | (with_reducible first | exact HB.out | apply below_alloc | apply pw_below_drewN | apply below_drew1) | exact HB.out)⟩
/-! ### spec_l01Power: function 91 -/
def spec_l01Power.l0 : Nat → Int → Int → Option (Int)
 | 0, _, _ => none
 | k + 1, x0, x3 => if x0 > 0 then (spec_l01Power.l0 k (wrap64 (x0 - 1)) (wrap64 (3 * x3))) else (some x3)
def spec_l01Power.f (k : Nat) (a0 : Int) : Option (Int) := spec_l01Power.l0 k a0 1
theorem spec_l01Power.mono_l : ∀ k, (∀ y0 y1, LeO (spec_l01Power.l0 k y0 y1) (spec_l01Power.l0 (k + 1) y0 y1))
 | 0 => fun _ _ r h => by simp [spec_l01Power.l0] at h
 | k + 1 => by
  have ih0 := spec_l01Power.mono_l k
  ·intro y0 y1
   unfold spec_l01Power.l0
   repeat' first
   | (with_reducible exact ih0 _ _)
   | (with_reducible exact LeO.refl _)
   | (with_reducible exact LeO.none _)
   | (with_reducible refine LeO.ite ?_ ?_)
   | (with_reducible refine LeO.bind ?_ (fun _ => ?_))
   | exact ih0 _ _
   | exact LeO.none _
   | refine LeO.ite ?_ ?_
   | refine LeO.bind ?_ (fun _ => ?_)
theorem spec_l01Power.mono : ∀ a0 k, LeO (spec_l01Power.f k a0) (spec_l01Power.f (k + 1) a0) := by
 intro a0 k
 have ih0 := spec_l01Power.mono_l k
 unfold spec_l01Power.f
 repeat' first
   | (with_reducible exact ih0 _ _)
   | (with_reducible exact LeO.refl _)
   | (with_reducible exact LeO.none _)
   | (with_reducible refine LeO.ite ?_ ?_)
   | (with_reducible refine LeO.bind ?_ (fun _ => ?_))
   | exact ih0 _ _
   | exact LeO.none _
   | refine LeO.ite ?_ ?_
   | refine LeO.bind ?_ (fun _ => ?_)
set_option maxHeartbeats 8000000 in
set_option maxRecDepth 100000 in
theorem spec_l01Power.calls (k : Nat) (a0 : Int) (r : Int) (w : World) (h : spec_l01Power.f k a0 = some r) :
  Calls Tryd.prog 91 #[.int .i64 a0] w fun e w' => e = .returned (.int .i64 r) ∧ Drawn0 w w' := by
 have H : (spec_l01Power.l0 k a0 1) = some r := h
 clear h
 have H' := Aside0.mk H
 clear H
 go_enter Tryd.func91, Tryd.ntmps91
 go_wp2
 go_loopg [0, 3] k (fun kq v0 v3 w' => ∃ (x0_1 : Int) (x3_1 : Int), v0 = .int .i64 x0_1 ∧ v3 = .int .i64 x3_1 ∧ Aside0 (spec_l01Power.l0 kq x0_1 x3_1 = some r) ∧ Aside0 (kq ≤ k) ∧ Drawn0 w w')
 case atStart => exact ⟨(a0), (1), (by first | rfl | (simp; done) | (simp [*]; done) | (simp [wrap64]; done)), (by first | rfl | (simp; done) | (simp [*]; done) | (simp [wrap64]; done)), H', ⟨Nat.le_refl _⟩, by repeat (first | exact Drawn0.refl _ | apply Drawn0.step)⟩
 case round =>
  clear H'
  obtain ⟨x0_1, x3_1, rfl, rfl, HA, HK1, ⟨m1, rfl⟩⟩ := hrel
  cases gk with
  | zero => exact absurd HA.out (by simp [spec_l01Power.l0])
  | succ k1 =>
   have H := HA.out
   clear HA
   simp only [spec_l01Power.l0] at H
   by_cases c2 : x0_1 > 0
   ·rw [if_pos c2] at H
    have c2b0 : decide (0 < x0_1) = true := decide_eq_true c2
    clear c2
    have H' := Aside0.mk H
    clear H
    go_wp2
    go_roundg k1
    case measure => have := HK1.out; omega
    case rel => exact ⟨(wrap64 (x0_1 - 1)), (wrap64 (3 * x3_1)), (by first | rfl | (simp; done) | (simp [*]; done) | (simp [wrap64]; done)), (by first | rfl | (simp; done) | (simp [*]; done) | (simp [wrap64]; done)), H', ⟨by have := HK1.out; omega⟩, by repeat (first | exact Drawn0.refl _ | apply Drawn0.step)⟩
   ·rw [if_neg c2] at H
    have c2b0 : decide (0 < x0_1) = false := decide_eq_false c2
    clear c2
    obtain rfl := Option.some.inj H
    simp only [Option.some.injEq, Prod.mk.injEq] at H
    obtain ⟨rfl⟩ := H
    go_wp2
    go_ret
    exact ⟨by first | rfl | (simp; done) | (simp [*]; done) | (simp [wrap64]; done), by repeat (first | exact Drawn0.refl _ | apply Drawn0.step)⟩
/-! ### spec_l01Wide: function 53 -/
def spec_l01Wide.f (k : Nat) (a0 : Int) : Option (Int) := (spec_l01Power.f k a0).bind fun t105 => (some (wrap64 (t105 - 1)))
theorem spec_l01Wide.mono : ∀ a0 k, LeO (spec_l01Wide.f k a0) (spec_l01Wide.f (k + 1) a0) := by
 intro a0 k
 unfold spec_l01Wide.f
 repeat' first
   | (with_reducible exact spec_l01Power.mono _ _)
   | (with_reducible exact LeO.refl _)
   | (with_reducible exact LeO.none _)
   | (with_reducible refine LeO.ite ?_ ?_)
   | (with_reducible refine LeO.bind ?_ (fun _ => ?_))
   | exact spec_l01Power.mono _ _
   | exact LeO.none _
   | refine LeO.ite ?_ ?_
   | refine LeO.bind ?_ (fun _ => ?_)
set_option maxHeartbeats 8000000 in
set_option maxRecDepth 100000 in
theorem spec_l01Wide.calls (k : Nat) (a0 : Int) (r : Int) (w : World) (h : spec_l01Wide.f k a0 = some r) :
  Calls Tryd.prog 53 #[.int .i64 a0] w fun e w' => e = .returned (.int .i64 r) ∧ Drawn0 w w' := by
 have H : ((spec_l01Power.f k a0).bind fun t105 => (some (wrap64 (t105 - 1)))) = some r := h
 clear h
 replace H := Option.bind_eq_some_iff.mp H
 obtain ⟨t105, A20, H⟩ := H
 replace H : (some (wrap64 (t105 - 1))) = some r := H
 have A2 := Aside0.mk A20
 clear A20
 obtain rfl := Option.some.inj H
 simp only [Option.some.injEq, Prod.mk.injEq] at H
 obtain ⟨rfl⟩ := H
 go_enter Tryd.func53, Tryd.ntmps53
 go_wp2_with (first | ((with_reducible refine gate_callee (f := 91) rfl ?_); refine goesL_ (some 4) rfl rfl Tryd.func91 (by kernel_rfl) rfl #[.int .i64 a0] rfl (by (try simp only [List.map_toArray, List.map_cons, List.map_nil]); first | done | rfl | (simp only [List.length_drop, List.length_take]; rfl)) ?_; (with_reducible refine (spec_l01Power.calls k a0 t105 _ A2.out).mono ?_); rintro e w' ⟨rfl, ⟨nd, rfl⟩⟩; refine ⟨_, rfl, ?_⟩))
 go_ret
 exact ⟨by first | rfl | (simp; done) | (simp [*]; done) | (simp [wrap64]; done), by repeat (first | exact Drawn0.refl _ | apply Drawn0.step)⟩
/-! ### spec_l01Digit: function 54 -/
def spec_l01Digit.f (k : Nat) (a0 : Int) (a1 : Int) : Option (Int) := (spec_l01Power.f k a1).bind fun t106 => (if t106 = 0 then (none) else (some (Int.tmod (wrap64 (Int.tdiv a0 t106)) 3)))
theorem spec_l01Digit.mono : ∀ a0 a1 k, LeO (spec_l01Digit.f k a0 a1) (spec_l01Digit.f (k + 1) a0 a1) := by
 intro a0 a1 k
 unfold spec_l01Digit.f
 repeat' first
   | (with_reducible exact spec_l01Power.mono _ _)
   | (with_reducible exact LeO.refl _)
   | (with_reducible exact LeO.none _)
   | (with_reducible refine LeO.ite ?_ ?_)
   | (with_reducible refine LeO.bind ?_ (fun _ => ?_))
   | exact spec_l01Power.mono _ _
   | exact LeO.none _
   | refine LeO.ite ?_ ?_
   | refine LeO.bind ?_ (fun _ => ?_)
set_option maxHeartbeats 8000000 in
set_option maxRecDepth 100000 in
theorem spec_l01Digit.calls (k : Nat) (a0 : Int) (a1 : Int) (r : Int) (w : World) (h : spec_l01Digit.f k a0 a1 = some r) :
  Calls Tryd.prog 54 #[.int .i64 a0, .int .i64 a1] w fun e w' => e = .returned (.int .i64 r) ∧ Drawn0 w w' := by
 have H : ((spec_l01Power.f k a1).bind fun t106 => (if t106 = 0 then (none) else (some (Int.tmod (wrap64 (Int.tdiv a0 t106)) 3)))) = some r := h
 clear h
 replace H := Option.bind_eq_some_iff.mp H
 obtain ⟨t106, A30, H⟩ := H
 replace H : (if t106 = 0 then (none) else (some (Int.tmod (wrap64 (Int.tdiv a0 t106)) 3))) = some r := H
 have A3 := Aside0.mk A30
 clear A30
 by_cases c4 : t106 = 0
 ·rw [if_pos c4] at H
  exact absurd H (by simp)
 ·rw [if_neg c4] at H
  have c4b0 : (t106 == 0) = false := beq_eq_false_iff_ne.mpr c4
  have c4b1 : (t106 != 0) = true := bne_iff_ne.mpr c4
  obtain rfl := Option.some.inj H
  simp only [Option.some.injEq, Prod.mk.injEq] at H
  obtain ⟨rfl⟩ := H
  go_enter Tryd.func54, Tryd.ntmps54
  go_wp2_with (first | ((with_reducible refine gate_callee (f := 91) rfl ?_); refine goesL_ (some 7) rfl rfl Tryd.func91 (by kernel_rfl) rfl #[.int .i64 a1] rfl (by (try simp only [List.map_toArray, List.map_cons, List.map_nil]); first | done | rfl | (simp only [List.length_drop, List.length_take]; rfl)) ?_; (with_reducible refine (spec_l01Power.calls k a1 t106 _ A3.out).mono ?_); rintro e w' ⟨rfl, ⟨nd, rfl⟩⟩; refine ⟨_, rfl, ?_⟩))
  go_ret
  exact ⟨by first | rfl | (simp; done) | (simp [*]; done) | (simp [wrap64]; done), by repeat (first | exact Drawn0.refl _ | apply Drawn0.step)⟩
/-! ### spec_l01Ended: function 104 -/
mutual
def spec_l01Ended.l0 : Nat → Int → Int → Int → Int → Option (Int)
 | 0, _, _, _, _ => none
 | k + 1, x0, x1, x2, x7 => if x7 < x0 then ((spec_l01Digit.f k x2 x7).bind fun t107 => (if t107 = 2 then (spec_l01Ended.j1 k x0 x1 x2 x7 (t107 == 2) false) else (if 0 ≤ (IntKind.u64.wrap (x7)) then (spec_l01Ended.j1 k x0 x1 x2 x7 (t107 == 2) ((Go.bits .and .i64 (shr .i64 x1 (IntKind.u64.wrap (x7))) 1) == 1)) else (none)))) else (some x1)
def spec_l01Ended.j1 : Nat → Int → Int → Int → Int → Bool → Bool → Option (Int)
 | 0, _, _, _, _, _, _ => none
 | k + 1, x0, x1, x2, x7, x8, x27 => if x27 = true then (some (-1)) else (if x8 = true then (if 0 ≤ (IntKind.u64.wrap (x7)) then (spec_l01Ended.l0 k x0 (Go.bits .or .i64 x1 (shl .i64 1 (IntKind.u64.wrap (x7)))) x2 (wrap64 (x7 + 1))) else (none)) else (spec_l01Ended.l0 k x0 x1 x2 (wrap64 (x7 + 1))))
end
def spec_l01Ended.f (k : Nat) (a0 : Int) (a1 : Int) (a2 : Int) : Option (Int) := spec_l01Ended.l0 k a0 a1 a2 0
theorem spec_l01Ended.mono_l : ∀ k, (∀ y0 y1 y2 y3, LeO (spec_l01Ended.l0 k y0 y1 y2 y3) (spec_l01Ended.l0 (k + 1) y0 y1 y2 y3)) ∧ (∀ y0 y1 y2 y3 y4 y5, LeO (spec_l01Ended.j1 k y0 y1 y2 y3 y4 y5) (spec_l01Ended.j1 (k + 1) y0 y1 y2 y3 y4 y5))
 | 0 => ⟨fun _ _ _ _ r h => by simp [spec_l01Ended.l0] at h, fun _ _ _ _ _ _ r h => by simp [spec_l01Ended.j1] at h⟩
 | k + 1 => by
  obtain ⟨ih0, ih1⟩ := spec_l01Ended.mono_l k
  refine ⟨?_, ?_⟩
  ·intro y0 y1 y2 y3
   unfold spec_l01Ended.l0
   repeat' first
   | (with_reducible exact ih0 _ _ _ _)
   | (with_reducible exact ih1 _ _ _ _ _ _)
   | (with_reducible exact spec_l01Digit.mono _ _ _)
   | (with_reducible exact LeO.refl _)
   | (with_reducible exact LeO.none _)
   | (with_reducible refine LeO.ite ?_ ?_)
   | (with_reducible refine LeO.bind ?_ (fun _ => ?_))
   | exact ih0 _ _ _ _
   | exact ih1 _ _ _ _ _ _
   | exact spec_l01Digit.mono _ _ _
   | exact LeO.none _
   | refine LeO.ite ?_ ?_
   | refine LeO.bind ?_ (fun _ => ?_)
  ·intro y0 y1 y2 y3 y4 y5
   unfold spec_l01Ended.j1
   repeat' first
   | (with_reducible exact ih0 _ _ _ _)
   | (with_reducible exact ih1 _ _ _ _ _ _)
   | (with_reducible exact spec_l01Digit.mono _ _ _)
   | (with_reducible exact LeO.refl _)
   | (with_reducible exact LeO.none _)
   | (with_reducible refine LeO.ite ?_ ?_)
   | (with_reducible refine LeO.bind ?_ (fun _ => ?_))
   | exact ih0 _ _ _ _
   | exact ih1 _ _ _ _ _ _
   | exact spec_l01Digit.mono _ _ _
   | exact LeO.none _
   | refine LeO.ite ?_ ?_
   | refine LeO.bind ?_ (fun _ => ?_)
theorem spec_l01Ended.mono : ∀ a0 a1 a2 k, LeO (spec_l01Ended.f k a0 a1 a2) (spec_l01Ended.f (k + 1) a0 a1 a2) := by
 intro a0 a1 a2 k
 obtain ⟨ih0, ih1⟩ := spec_l01Ended.mono_l k
 unfold spec_l01Ended.f
 repeat' first
   | (with_reducible exact ih0 _ _ _ _)
   | (with_reducible exact ih1 _ _ _ _ _ _)
   | (with_reducible exact spec_l01Digit.mono _ _ _)
   | (with_reducible exact LeO.refl _)
   | (with_reducible exact LeO.none _)
   | (with_reducible refine LeO.ite ?_ ?_)
   | (with_reducible refine LeO.bind ?_ (fun _ => ?_))
   | exact ih0 _ _ _ _
   | exact ih1 _ _ _ _ _ _
   | exact spec_l01Digit.mono _ _ _
   | exact LeO.none _
   | refine LeO.ite ?_ ?_
   | refine LeO.bind ?_ (fun _ => ?_)
set_option maxHeartbeats 8000000 in
set_option maxRecDepth 100000 in
theorem spec_l01Ended.calls (k : Nat) (a0 : Int) (a1 : Int) (a2 : Int) (r : Int) (w : World) (h : spec_l01Ended.f k a0 a1 a2 = some r) :
  Calls Tryd.prog 104 #[.int .i64 a0, .int .i64 a1, .int .i64 a2] w fun e w' => e = .returned (.int .i64 r) ∧ Drawn0 w w' := by
 have H : (spec_l01Ended.l0 k a0 a1 a2 0) = some r := h
 clear h
 have H' := Aside0.mk H
 clear H
 go_enter Tryd.func104, Tryd.ntmps104
 go_wp2
 go_loopg [1, 7] k (fun kq v1 v7 w' => ∃ (x1_1 : Int) (x7_1 : Int), v1 = .int .i64 x1_1 ∧ v7 = .int .i64 x7_1 ∧ Aside0 (spec_l01Ended.l0 kq a0 x1_1 a2 x7_1 = some r) ∧ Aside0 (kq ≤ k) ∧ Drawn0 w w')
 case atStart => exact ⟨(a1), (0), (by first | rfl | (simp; done) | (simp [*]; done) | (simp [wrap64]; done)), (by first | rfl | (simp; done) | (simp [*]; done) | (simp [wrap64]; done)), H', ⟨Nat.le_refl _⟩, by repeat (first | exact Drawn0.refl _ | apply Drawn0.step)⟩
 case round =>
  clear H'
  try clear c1
  try clear p2
  obtain ⟨x1_1, x7_1, rfl, rfl, HA, HK1, ⟨m1, rfl⟩⟩ := hrel
  cases gk with
  | zero => exact absurd HA.out (by simp [spec_l01Ended.l0])
  | succ k1 =>
   have H := HA.out
   clear HA
   simp only [spec_l01Ended.l0] at H
   by_cases c4 : x7_1 < a0
   ·rw [if_pos c4] at H
    have c4b0 : decide (x7_1 < a0) = true := decide_eq_true c4
    clear c4
    replace H := Option.bind_eq_some_iff.mp H
    obtain ⟨t107, A50, H⟩ := H
    replace H : (if t107 = 2 then (spec_l01Ended.j1 k1 a0 x1_1 a2 x7_1 (t107 == 2) false) else (if 0 ≤ (IntKind.u64.wrap (x7_1)) then (spec_l01Ended.j1 k1 a0 x1_1 a2 x7_1 (t107 == 2) ((Go.bits .and .i64 (shr .i64 x1_1 (IntKind.u64.wrap (x7_1))) 1) == 1)) else (none))) = some r := H
    have A5 := Aside0.mk A50
    clear A50
    have HC6 := Aside0.mk H
    clear H
    go_upto_region 5 with (first | ((with_reducible refine gate_callee (f := 54) rfl ?_); refine goesL_ (some 16) rfl rfl Tryd.func54 (by kernel_rfl) rfl #[.int .i64 a2, .int .i64 x7_1] rfl (by (try simp only [List.map_toArray, List.map_cons, List.map_nil]); first | done | rfl | (simp only [List.length_drop, List.length_take]; rfl)) ?_; (with_reducible refine (spec_l01Digit.calls k1 a2 x7_1 t107 _ A5.out).mono ?_); rintro e w' ⟨rfl, ⟨nd, rfl⟩⟩; refine ⟨_, rfl, ?_⟩))
    (try simp only [Act.put, List.setIfInBounds_toArray, List.set_cons_zero, List.set_cons_succ])
    obtain ⟨bq, hbq⟩ : ∃ b : Bool, Aside0 ((t107 == 2) = b) := ⟨_, ⟨rfl⟩⟩
    rw [hbq.out]
    go_cut [27] (fun v27 wc => ∃ (kq : Nat) (x27_5 : Bool), v27 = .bool x27_5 ∧ Aside0 (spec_l01Ended.j1 kq a0 x1_1 a2 x7_1 bq x27_5 = some r) ∧ Aside0 (kq ≤ k1) ∧ Drawn0 w wc)
    case first =>
     have H := HC6.out
     clear HC6
     by_cases c7 : t107 = 2
     ·rw [if_pos c7] at H
      have c7b0 : (t107 == 2) = true := beq_iff_eq.mpr c7
      obtain rfl : bq = true := by rw [← hbq.out]; exact c7b0
      rw [c7b0] at H
      have c7b1 : (t107 != 2) = false := bne_eq_false_iff_eq.mpr c7
      clear c7
      (first | rw [c7b0] | (simp only [i64_w, i32_w]; rw [c7b0]) | skip)
      have H' := Aside0.mk H
      clear H
      go_wp2
      go_meet
      case rel => exact ⟨_, (false), (by first | rfl | (simp; done) | (simp [*]; done) | (simp [wrap64]; done)), H', ⟨by have := HK1.out; first | omega | exact Nat.le_refl _⟩, by repeat (first | exact Drawn0.refl _ | apply Drawn0.step)⟩
     ·rw [if_neg c7] at H
      have c7b0 : (t107 == 2) = false := beq_eq_false_iff_ne.mpr c7
      obtain rfl : bq = false := by rw [← hbq.out]; exact c7b0
      rw [c7b0] at H
      have c7b1 : (t107 != 2) = true := bne_iff_ne.mpr c7
      (first | rw [c7b0] | (simp only [i64_w, i32_w]; rw [c7b0]) | skip)
      obtain ⟨ji8, hji8⟩ : ∃ j_ : Int, (IntKind.u64.wrap (x7_1)) = j_ := ⟨_, rfl⟩
      replace H : (if 0 ≤ (ji8) then (spec_l01Ended.j1 k1 a0 x1_1 a2 x7_1 false ((Go.bits .and .i64 (shr .i64 x1_1 (ji8)) 1) == 1)) else (none)) = some r := by first | (rw [hji8] at H; exact H) | (simp only [hji8] at H ⊢; exact H)
      by_cases c9 : 0 ≤ (ji8)
      ·rw [if_pos c9] at H
       have c9b0 := eq_true c9
       have c9b1 : decide (0 ≤ (ji8)) = true := decide_eq_true c9
       clear c9
       obtain ⟨ji10, hji10⟩ : ∃ j_ : Int, (shr .i64 x1_1 (ji8)) = j_ := ⟨_, rfl⟩
       replace H : (spec_l01Ended.j1 k1 a0 x1_1 a2 x7_1 false ((Go.bits .and .i64 (ji10) 1) == 1)) = some r := by first | (rw [hji10] at H; exact H) | (simp only [hji10] at H ⊢; exact H)
       have hji10_ : (x1_1 / 2 ^ min (ji8).toNat 64) = ji10 := hji10
       have hji10z : (ji8) ≤ 64 → (x1_1 / 2 ^ (ji8).toNat) = ji10 := shr_small hji10
       have H' := Aside0.mk H
       clear H
       go_wp2
       go_meet
       case rel => exact ⟨_, (((Go.bits .and .i64 (ji10) 1) == 1)), (by first | rfl | (simp; done) | (simp only [← hji10] <;> (first | rfl | simp)) | (simp [*]; done)), H', ⟨by have := HK1.out; first | omega | exact Nat.le_refl _⟩, by repeat (first | exact Drawn0.refl _ | apply Drawn0.step)⟩
      ·rw [if_neg c9] at H
       exact absurd H (by simp)
    case rest =>
     clear HC6
     try clear c1
     try clear p2
     try clear c4
     try clear c4b0
     try clear c5
     try clear p6
     try clear c7
     try clear c7b0
     try clear c7b1
     try clear c9
     try clear c9b0
     try clear c9b1
     try clear c10
     try clear p2
     obtain ⟨kq, x27_5, rfl, HA, HJ5, ⟨mc5, rfl⟩⟩ := hcut
     cases kq with
     | zero => exact absurd HA.out (by simp [spec_l01Ended.j1])
     | succ kj5 =>
      have H := HA.out
      clear HA
      simp only [spec_l01Ended.j1] at H
      by_cases c11 : x27_5 = true
      ·subst c11
       have H1 : (some (-1)) = some r := by rw [if_pos rfl] at H; exact H
       clear H
       have H := H1
       clear H1
       obtain rfl := Option.some.inj H
       simp only [Option.some.injEq, Prod.mk.injEq] at H
       obtain ⟨rfl⟩ := H
       go_wp2
       go_ret
       exact ⟨by first | rfl | (simp; done) | (simp [*]; done) | (simp [wrap64]; done), by repeat (first | exact Drawn0.refl _ | apply Drawn0.step)⟩
      ·replace c11 := Bool.eq_false_iff.mpr c11
       subst c11
       have H1 : (if bq = true then (if 0 ≤ (IntKind.u64.wrap (x7_1)) then (spec_l01Ended.l0 kj5 a0 (Go.bits .or .i64 x1_1 (shl .i64 1 (IntKind.u64.wrap (x7_1)))) a2 (wrap64 (x7_1 + 1))) else (none)) else (spec_l01Ended.l0 kj5 a0 x1_1 a2 (wrap64 (x7_1 + 1)))) = some r := by rw [if_neg (show ¬ (false = true) by decide)] at H; exact H
       clear H
       have H := H1
       clear H1
       by_cases c12 : bq = true
       ·rw [if_pos c12] at H
        obtain rfl : bq = true := c12
        obtain ⟨ji13, hji13⟩ : ∃ j_ : Int, (IntKind.u64.wrap (x7_1)) = j_ := ⟨_, rfl⟩
        replace H : (if 0 ≤ (ji13) then (spec_l01Ended.l0 kj5 a0 (Go.bits .or .i64 x1_1 (shl .i64 1 (ji13))) a2 (wrap64 (x7_1 + 1))) else (none)) = some r := by first | (rw [hji13] at H; exact H) | (simp only [hji13] at H ⊢; exact H)
        by_cases c14 : 0 ≤ (ji13)
        ·rw [if_pos c14] at H
         have c14b0 := eq_true c14
         have c14b1 : decide (0 ≤ (ji13)) = true := decide_eq_true c14
         clear c14
         obtain ⟨ji15, hji15⟩ : ∃ j_ : Int, (shl .i64 1 (ji13)) = j_ := ⟨_, rfl⟩
         replace H : (spec_l01Ended.l0 kj5 a0 (Go.bits .or .i64 x1_1 (ji15)) a2 (wrap64 (x7_1 + 1))) = some r := by first | (rw [hji15] at H; exact H) | (simp only [hji15] at H ⊢; exact H)
         have hji15_ : (IntKind.i64.wrap (1 * 2 ^ min (ji13).toNat 64)) = ji15 := hji15
         have hji15z : (ji13) ≤ 64 → (IntKind.i64.wrap (1 * 2 ^ (ji13).toNat)) = ji15 := shl_small hji15
         have hji15u : (IntKind.i64.wrap (2 ^ min (ji13).toNat 64)) = ji15 := by have h_ := hji15_; rw [Int.one_mul] at h_; exact h_
         have hji15v : (ji13) ≤ 64 → (IntKind.i64.wrap (2 ^ (ji13).toNat)) = ji15 := fun hle_ => by have h_ := hji15z hle_; rw [Int.one_mul] at h_; exact h_
         have hji15y : (wrap64 (1 * 2 ^ min (ji13).toNat 64)) = ji15 := (i64_w _).symm.trans hji15_
         have hji15x : (ji13) ≤ 64 → (wrap64 (1 * 2 ^ (ji13).toNat)) = ji15 := fun h_ => (i64_w _).symm.trans (hji15z h_)
         have H' := Aside0.mk H
         clear H
         go_wp2
         go_roundg kj5
         case measure => have := HK1.out; have := HJ5.out; omega
         case rel => exact ⟨(Go.bits .or .i64 x1_1 (ji15)), (wrap64 (x7_1 + 1)), (by first | rfl | (simp; done) | (simp only [← hji15] <;> (first | rfl | simp)) | (simp [*]; done)), (by first | rfl | (simp; done) | (simp [*]; done) | (simp [wrap64]; done)), H', ⟨by have := HK1.out; have := HJ5.out; omega⟩, by repeat (first | exact Drawn0.refl _ | apply Drawn0.step)⟩
        ·rw [if_neg c14] at H
         exact absurd H (by simp)
       ·rw [if_neg c12] at H
        obtain rfl : bq = false := Bool.eq_false_iff.mpr c12
        have H' := Aside0.mk H
        clear H
        go_wp2
        go_roundg kj5
        case measure => have := HK1.out; have := HJ5.out; omega
        case rel => exact ⟨(x1_1), (wrap64 (x7_1 + 1)), (by first | rfl | (simp; done) | (simp [*]; done) | (simp [wrap64]; done)), (by first | rfl | (simp; done) | (simp [*]; done) | (simp [wrap64]; done)), H', ⟨by have := HK1.out; have := HJ5.out; omega⟩, by repeat (first | exact Drawn0.refl _ | apply Drawn0.step)⟩
   ·rw [if_neg c4] at H
    have c4b0 : decide (x7_1 < a0) = false := decide_eq_false c4
    clear c4
    obtain rfl := Option.some.inj H
    simp only [Option.some.injEq, Prod.mk.injEq] at H
    obtain ⟨rfl⟩ := H
    go_wp2
    go_ret
    exact ⟨by first | rfl | (simp; done) | (simp [*]; done) | (simp [wrap64]; done), by repeat (first | exact Drawn0.refl _ | apply Drawn0.step)⟩
end Go.Proofs.YtnjdkhnepmmfgaaDoor.PB1
namespace Go.Proofs.YtnjdkhnepmmfgaaDoor.PB1
open Go.RowKit Go.Proofs.YtnjdkhnepmmfgaaDoorW.PrintWords Go.Proofs.YtnjdkhnepmmfgaaDoorW.PrintLast Go.Proofs.YtnjdkhnepmmfgaaDoorW.PrintMore
attribute [local go_sem] max2_int min2_int max_two min_two max_three min_three max_four min_four   -- for this text's walks alone
set_option linter.unusedVariables false
set_option linter.unusedSimpArgs false
end Go.Proofs.YtnjdkhnepmmfgaaDoor.PB1
namespace Go.Proofs.YtnjdkhnepmmfgaaDoor.Tf
set_option linter.unusedVariables false
set_option linter.unusedSimpArgs false
open Go.RowKit Go.Proofs.YtnjdkhnepmmfgaaDoorW.PrintWords Go.Proofs.YtnjdkhnepmmfgaaDoorW.PrintLast Go.Proofs.YtnjdkhnepmmfgaaDoorW.PrintMore Tdy Td Mg Rg Ti Go.Proofs.YtnjdkhnepmmfgaaDoor.Pure PB1
def wdOf (t : Nat) : Nat := 3 ^ t - 1
def digs : Nat → Nat → List Nat
 | 0, _ => []
 | t + 1, c => c % 3 :: digs t (c / 3)
def padT (t : Nat) : Nat → Nat := padOf (digs t)
theorem digs_len : ∀ (t c : Nat), (digs t c).length = t
 | 0, _ => rfl
 | t + 1, c => by rw [digs, List.length_cons, digs_len t]
theorem digs_lt : ∀ (t c : Nat), ∀ d ∈ digs t c, d < 3
 | 0, _, d, h => by cases h
 | t + 1, c, d, h => by
  rcases List.mem_cons.1 h with rfl | h
  ·exact Nat.mod_lt _ (by decide)
  ·exact digs_lt t _ d h
theorem fin_wide : ∀ t : Nat, t < 4 → impl_widthOf.f 10 (t : Int) = some ((wdOf t : Nat) : Int) ∧ spec_l01Wide.f 10 (t : Int) = some ((wdOf t : Nat) : Int) := by decide +kernel
theorem fin_digs : ∀ t : Nat, t < 4 → ∀ c : Nat, c < 26 → impl_digitsOf.f 10 (t : Int) (c : Int) = some (ints (digs t c)) := by decide +kernel
theorem fin_pad : ∀ t, t < 4 → ∀ c, c < 26 → padT t c < 2 ^ t := by decide +kernel
theorem wd_le : ∀ t, t < 4 → wdOf t ≤ 26 := by decide
theorem wd_pos : ∀ t, t < 4 → 0 < t → 0 < wdOf t := by decide
def enI' (o : Option Nat) : Int := match o with
 | none => -1
 | some e' => (e' : Int)
def endB (t e c : Nat) : Bool := decide (spec_l01Ended.f 60 (t : Int) (e : Int) (c : Int) = some (enI' (enC (padT t) e c)))
theorem fin_end : ((List.range 4).all fun t => (List.range (2 ^ t)).all fun e => (List.range (wdOf t)).all fun c => endB t e c) = true := by decide +kernel
theorem fin_ended (t : Nat) (ht : t < 4) (e : Nat) (he : e < 2 ^ t) (c : Nat) (hc : c < wdOf t) : spec_l01Ended.f 60 (t : Int) (e : Int) (c : Int) = some (enI' (enC (padT t) e c)) := by
 have h1 := List.all_eq_true.1 fin_end t (List.mem_range.2 ht)
 have h2 := List.all_eq_true.1 h1 e (List.mem_range.2 he)
 exact of_decide_eq_true (List.all_eq_true.1 h2 c (List.mem_range.2 hc))
/-! ### classes -/
end Go.Proofs.YtnjdkhnepmmfgaaDoor.Tf
namespace Go.Proofs.YtnjdkhnepmmfgaaDoor.PL1
open Go.RowKit Go.Proofs.YtnjdkhnepmmfgaaDoorW.PrintWords Go.Proofs.YtnjdkhnepmmfgaaDoorW.PrintLast Go.Proofs.YtnjdkhnepmmfgaaDoorW.PrintMore
attribute [local go_sem] max2_int min2_int max_two min_two max_three min_three max_four min_four   -- for this text's walks alone
set_option linter.unusedVariables false
set_option linter.unusedSimpArgs false
def errW : Option Int → Value
 | none => .nilIface
 | some c => .iface 0 (.int .i64 c)
theorem errW_none : errW none = .nilIface := rfl
theorem errW_some (c : Int) : errW (some c) = .iface 0 (.int .i64 c) := rfl
theorem info2 : (Tryd.prog.info? 2).map (fun i => (i.zero, i.size, i.bytes)) = some (some (.int .i64 0), 1, 8) := by kernel_rfl
end Go.Proofs.YtnjdkhnepmmfgaaDoor.PL1
namespace Go.Proofs.YtnjdkhnepmmfgaaDoor.PL1
open Go.RowKit Go.Proofs.YtnjdkhnepmmfgaaDoorW.PrintWords Go.Proofs.YtnjdkhnepmmfgaaDoorW.PrintLast Go.Proofs.YtnjdkhnepmmfgaaDoorW.PrintMore
attribute [local go_sem] max2_int min2_int max_two min_two max_three min_three max_four min_four   -- for this text's walks alone
set_option linter.unusedVariables false
set_option linter.unusedSimpArgs false
/-! ### laws_toInt64S: function 69 -/
def laws_toInt64S.l0 : Nat → List Int → List Int → Int → Option (List Int)
 | 0, _, _, _ => none
 | k + 1, x0, x3, x4 => if x4 < (x0.length : Int) then (if 0 ≤ x4 then (if x4 < (x3.length : Int) then (laws_toInt64S.l0 k x0 (x3.set (x4 : Int).toNat (rd x0 x4)) (wrap64 (x4 + 1))) else (none)) else (none)) else (some x3)
def laws_toInt64S.f (k : Nat) (l0 : List Int) : Option (List Int) := if 0 ≤ (l0.length : Int) then (if ((l0.length : Int) : Int).toNat ≤ 35184372088832 then (laws_toInt64S.l0 k l0 (List.replicate ((l0.length : Int) : Int).toNat 0) 0) else (none)) else (none)
theorem laws_toInt64S.mono_l : ∀ k, (∀ y0 y1 y2, LeO (laws_toInt64S.l0 k y0 y1 y2) (laws_toInt64S.l0 (k + 1) y0 y1 y2))
 | 0 => fun _ _ _ r h => by simp [laws_toInt64S.l0] at h
 | k + 1 => by
  have ih0 := laws_toInt64S.mono_l k
  ·intro y0 y1 y2
   unfold laws_toInt64S.l0
   repeat' first
   | (with_reducible exact ih0 _ _ _)
   | (with_reducible exact LeO.refl _)
   | (with_reducible exact LeO.none _)
   | (with_reducible refine LeO.ite ?_ ?_)
   | (with_reducible refine LeO.bind ?_ (fun _ => ?_))
   | exact ih0 _ _ _
   | exact LeO.none _
   | refine LeO.ite ?_ ?_
   | refine LeO.bind ?_ (fun _ => ?_)
theorem laws_toInt64S.mono : ∀ a0 k, LeO (laws_toInt64S.f k a0) (laws_toInt64S.f (k + 1) a0) := by
 intro a0 k
 have ih0 := laws_toInt64S.mono_l k
 unfold laws_toInt64S.f
 repeat' first
   | (with_reducible exact ih0 _ _ _)
   | (with_reducible exact LeO.refl _)
   | (with_reducible exact LeO.none _)
   | (with_reducible refine LeO.ite ?_ ?_)
   | (with_reducible refine LeO.bind ?_ (fun _ => ?_))
   | exact ih0 _ _ _
   | exact LeO.none _
   | refine LeO.ite ?_ ?_
   | refine LeO.bind ?_ (fun _ => ?_)
set_option maxHeartbeats 8000000 in
set_option maxRecDepth 100000 in
theorem laws_toInt64S.calls (k : Nat) (A0 : Option Addr) (c0 : Nat) (l0 : List Int) (r : List Int) (w : World) (hr0 : Kd.C (Kd.int .i64) w A0 l0.length l0) (hc0 : l0.length ≤ c0) (h : laws_toInt64S.f k l0 = some r) :
  Calls Tryd.prog 69 #[.slice A0 l0.length c0] w fun e w' => ∃ v0_ : Value, e = .returned (v0_) ∧ Kd.R (Kd.int .i64) 2 w' w.heap.size (fun _ => True) v0_ r ∧ Below w.heap.size w w' := by
 have HR0 := Aside0.mk hr0
 have HC0 := Aside0.mk hc0
 clear hr0 hc0
 have HB := Aside0.mk (Below.refl w.heap.size w)
 have H : (if 0 ≤ (l0.length : Int) then (if ((l0.length : Int) : Int).toNat ≤ 35184372088832 then (laws_toInt64S.l0 k l0 (List.replicate ((l0.length : Int) : Int).toNat 0) 0) else (none)) else (none)) = some r := h
 clear h
 by_cases c2 : 0 ≤ (l0.length : Int)
 ·rw [if_pos c2] at H
  have c2b0 := eq_true c2
  have c2b1 : decide (0 ≤ (l0.length : Int)) = true := decide_eq_true c2
  clear c2
  by_cases c3 : ((l0.length : Int) : Int).toNat ≤ 35184372088832
  ·rw [if_pos c3] at H
   have c3b0 := eq_true c3
   have c3b1 : decide (((l0.length : Int) : Int).toNat ≤ 35184372088832) = true := decide_eq_true c3
   clear c3
   obtain ⟨y101, hy101⟩ : ∃ y_ : List Int, y_ = (List.replicate ((l0.length : Int) : Int).toNat 0) := ⟨_, rfl⟩
   replace H : (laws_toInt64S.l0 k l0 y101 0) = some r := by first | (rw [hy101]; with_reducible exact H) | (have H2_ := (Option.bind_some _ _).symm.trans H; rw [hy101]; with_reducible exact H2_) | (have H2_ := (Option.bind_some _ _).symm.trans H; with_reducible exact H2_) | with_reducible exact H | (rw [hy101]; exact H) | exact H
   have Ny101 := Aside0.mk hy101
   clear hy101
   have H' := Aside0.mk H
   clear H
   go_enter Tryd.func69, Tryd.ntmps69
   go_wp2_with (first | ((with_reducible refine gate_dst (N := 7) rfl ?_); refine Kd.R_make (Kd.int .i64) _ 2 rfl (N := 7) rfl 75 _ _ rfl (l0.length : Int) rfl rfl Tryd.underlying75 (.int .i64 0) 8 info2 rfl (by decide) (by omega) 0 (ok := fun _ => True) (okp := fun _ => True) rfl (fun _ hk => hk) trivial (of_decide_eq_true (by first | (with_reducible assumption) | assumption)) (Nat.le_trans (Nat.mul_le_mul_right _ (of_decide_eq_true (by first | (with_reducible assumption) | assumption) : (l0.length : Int).toNat ≤ 35184372088832)) (by omega)) (Below.refl _ _) (Nat.le_refl _) ?_; intro v102 w4 ho5 hb hg_ hnew_; clear hg_ hnew_; (first | rw [← Ny101.out] at ho5 | (simp only [Int.reduceToNat] at ho5; rw [← Ny101.out] at ho5)); have n0_ := Aside0.mk (Kd.R_lower ho5 (below_size (by repeat (first | (with_reducible first | exact HB.out | apply below_alloc | apply pw_below_drewN | apply below_drew1) | exact HB.out)))); have n1_ := Aside0.mk (below_step (by repeat (first | (with_reducible first | exact HB.out | apply below_alloc | apply pw_below_drewN | apply below_drew1) | exact HB.out)) hb); clear HB; have HO103 := n0_; have HB := n1_; clear n0_ n1_; clear hb ho5))
   go_loopg [4] k (fun kq v4 w' => ∃ (x3_1 : List Int) (x4_1 : Int), v4 = .int .i64 x4_1 ∧ Aside0 (laws_toInt64S.l0 kq l0 x3_1 x4_1 = some r) ∧ Aside0 (kq ≤ k) ∧ Aside0 (Kd.R (Kd.int .i64) 2 w' w.heap.size (fun _ => True) v102 x3_1) ∧ Aside0 (Below w.heap.size w w'))
   case atStart => exact ⟨(y101), (0), (by first | rfl | (simp; done) | (simp [*]; done) | (simp [wrap64]; done)), H', ⟨Nat.le_refl _⟩, ⟨by (with_reducible repeat (first | apply Kd.R_alloc | apply Kd.R_drewN | apply Kd.R_drew)); exact HO103.out⟩, ⟨by repeat (first | (with_reducible first | exact HB.out | apply below_alloc | apply pw_below_drewN | apply below_drew1) | exact HB.out)⟩⟩
   case round =>
    clear H'
    try clear c2
    try clear c2b0
    try clear c2b1
    try clear p2
    try clear c3
    try clear c3b0
    try clear c3b1
    obtain ⟨x3_1, x4_1, rfl, HA, HK1, HO_3, HB⟩ := hrel
    cases gk with
    | zero => exact absurd HA.out (by simp [laws_toInt64S.l0])
    | succ k1 =>
     have H := HA.out
     clear HA
     simp only [laws_toInt64S.l0] at H
     by_cases c6 : x4_1 < (l0.length : Int)
     ·rw [if_pos c6] at H
      have c6b0 : decide (x4_1 < (l0.length : Int)) = true := decide_eq_true c6
      clear c6
      by_cases c7 : 0 ≤ x4_1
      ·rw [if_pos c7] at H
       have c7b0 : decide (0 ≤ x4_1) = true := decide_eq_true c7
       clear c7
       by_cases c8 : x4_1 < (x3_1.length : Int)
       ·rw [if_pos c8] at H
        have c8b0 : decide (x4_1 < (x3_1.length : Int)) = true := decide_eq_true c8
        clear c8
        obtain ⟨y105, hy105⟩ : ∃ y_ : List Int, y_ = (x3_1.set (x4_1 : Int).toNat (rd l0 x4_1)) := ⟨_, rfl⟩
        replace H : (laws_toInt64S.l0 k1 l0 y105 (wrap64 (x4_1 + 1))) = some r := by first | (rw [hy105]; with_reducible exact H) | (have H2_ := (Option.bind_some _ _).symm.trans H; rw [hy105]; with_reducible exact H2_) | (have H2_ := (Option.bind_some _ _).symm.trans H; with_reducible exact H2_) | with_reducible exact H | (rw [hy105]; exact H) | exact H
        have Ny105 := Aside0.mk hy105
        clear hy105
        have H' := Aside0.mk H
        clear H
        have p104 : 0 ≤ (x4_1 : Int) := of_decide_eq_true (by first | (with_reducible assumption) | assumption)
        have q104 : x4_1 < (l0.length : Int) := of_decide_eq_true (by first | (with_reducible assumption) | assumption)
        obtain ⟨ad104, e104, hx104_0⟩ := Kd.at_int HR0.out x4_1 p104 q104
        cases e104
        replace hx104_0 := (HB.out.cell (World.block_lt_of_cell? w _ hx104_0)).trans hx104_0
        replace p104 := eq_true p104
        replace q104 := eq_true q104
        have p9 : 0 ≤ (x4_1 : Int) := of_decide_eq_true (by first | (with_reducible assumption) | assumption)
        have q9 : (x4_1 : Int) < ((x3_1.length : Int) : Int) := of_decide_eq_true (by first | (with_reducible assumption) | assumption)
        obtain ⟨go9, co9, eo9, gb9, gl9, cl9, HG9⟩ := Kd.R_form HO_3.out (by omega)
        (first | cases eo9 | (injection eo9 with ea_ en_ ec_; (first | subst ea_ | (injection ea_ with ea_; subst ea_)); subst ec_; clear en_))
        have GB9 := Aside0.mk gb9
        have GG9 := Aside0.mk HG9
        clear gb9 gl9 HG9
        obtain ⟨hx9_0, hf9_0⟩ := Kd.R_celln 0 HO_3.out (x4_1 : Int) p9 q9
        replace p9 := eq_true p9
        replace q9 := eq_true q9
        have HP10 := Kd.R_putg HO_3.out (x4_1 : Int) (rd l0 x4_1)
        go_wp2_with (first | ((with_reducible refine gate_store (t := 2) (p := 20) rfl ?_); refine store_event (t := 2) (p := 20) (v := ?vo_w11) (w1 := (wr.setCell ⟨go9, (x4_1 : Int).toNat, none⟩ (.int .i64 (rd l0 x4_1)))) ?hg ?ho ?hn ?hr ?_; (case ho => rfl); (case hg => rfl); (case hn => rfl); (case hr => first | (go_simp; done) | (go_simp; rfl)); intro w11 hw; have hg : wr.grownBy w11 (some go9) := (by rw [hw]; exact HP10.2); have hp_ : Kd.R (Kd.int .i64) 2 w11 w.heap.size (fun _ => True) (.slice (some ⟨go9, 0, none⟩) x3_1.length co9) y105 := (by rw [hw, Ny105.out]; exact HP10.1); clear HP10; have n0_ := Aside0.mk (hp_); have n1_ := Aside0.mk ((by rw [hw]; exact below_set (HB.out) GB9.out : Below w.heap.size w w11)); clear HO_3; clear HB; have HO_3 := n0_; have HB := n1_; clear n0_ n1_; clear hg hw hp_))
        go_roundg k1
        case measure => have := HK1.out; omega
        case rel => exact ⟨(y105), (wrap64 (x4_1 + 1)), (by first | rfl | (simp; done) | (simp [*]; done) | (simp [wrap64]; done)), H', ⟨by have := HK1.out; omega⟩, ⟨by (with_reducible repeat (first | apply Kd.R_alloc | apply Kd.R_drewN | apply Kd.R_drew)); exact HO_3.out⟩, ⟨by repeat (first | (with_reducible first | exact HB.out | apply below_alloc | apply pw_below_drewN | apply below_drew1) | exact HB.out)⟩⟩
       ·rw [if_neg c8] at H
        exact absurd H (by simp)
      ·rw [if_neg c7] at H
       exact absurd H (by simp)
     ·rw [if_neg c6] at H
      have c6b0 : decide (x4_1 < (l0.length : Int)) = false := decide_eq_false c6
      clear c6
      obtain rfl := Option.some.inj H
      simp only [Option.some.injEq, Prod.mk.injEq] at H
      obtain ⟨rfl⟩ := H
      go_wp2
      go_ret
      exact ⟨_, by first | rfl | (simp [errW_none, errW_some] <;> rfl) | (simp [*, errW_none, errW_some] <;> rfl), by (with_reducible repeat (first | apply Kd.R_alloc | apply Kd.R_drewN | apply Kd.R_drew)); exact HO_3.out, by repeat (first | (with_reducible first | exact HB.out | apply below_alloc | apply pw_below_drewN | apply below_drew1) | exact HB.out)⟩
  ·rw [if_neg c3] at H
   exact absurd H (by simp)
 ·rw [if_neg c2] at H
  exact absurd H (by simp)
/-! ### laws_markInt64S: function 77 -/
def laws_markInt64S.l0 : Nat → List Int → Int → Int → Option (Int × List Int)
 | 0, _, _, _ => none
 | k + 1, x0, x1, x5 => if x5 < (x0.length : Int) then (if 0 ≤ x5 then (laws_markInt64S.l0 k (x0.set (x5 : Int).toNat x1) (wrap64 (x1 + 1)) (wrap64 (x5 + 1))) else (none)) else (some (x1, x0))
def laws_markInt64S.f (k : Nat) (l0 : List Int) (a1 : Int) : Option (Int × List Int) := laws_markInt64S.l0 k l0 a1 0
theorem laws_markInt64S.mono_l : ∀ k, (∀ y0 y1 y2, LeO (laws_markInt64S.l0 k y0 y1 y2) (laws_markInt64S.l0 (k + 1) y0 y1 y2))
 | 0 => fun _ _ _ r h => by simp [laws_markInt64S.l0] at h
 | k + 1 => by
  have ih0 := laws_markInt64S.mono_l k
  ·intro y0 y1 y2
   unfold laws_markInt64S.l0
   repeat' first
   | (with_reducible exact ih0 _ _ _)
   | (with_reducible exact LeO.refl _)
   | (with_reducible exact LeO.none _)
   | (with_reducible refine LeO.ite ?_ ?_)
   | (with_reducible refine LeO.bind ?_ (fun _ => ?_))
   | exact ih0 _ _ _
   | exact LeO.none _
   | refine LeO.ite ?_ ?_
   | refine LeO.bind ?_ (fun _ => ?_)
theorem laws_markInt64S.mono : ∀ a0 a1 k, LeO (laws_markInt64S.f k a0 a1) (laws_markInt64S.f (k + 1) a0 a1) := by
 intro a0 a1 k
 have ih0 := laws_markInt64S.mono_l k
 unfold laws_markInt64S.f
 repeat' first
   | (with_reducible exact ih0 _ _ _)
   | (with_reducible exact LeO.refl _)
   | (with_reducible exact LeO.none _)
   | (with_reducible refine LeO.ite ?_ ?_)
   | (with_reducible refine LeO.bind ?_ (fun _ => ?_))
   | exact ih0 _ _ _
   | exact LeO.none _
   | refine LeO.ite ?_ ?_
   | refine LeO.bind ?_ (fun _ => ?_)
set_option maxHeartbeats 8000000 in
set_option maxRecDepth 100000 in
theorem laws_markInt64S.calls (k : Nat) (P0_ : Nat → Prop) (u9000_ : Value) (l0 : List Int) (a1 : Int) (r1 : Int) (r2 : List Int) (w0 w : World) (hB : Below w0.heap.size w0 w) (ho0 : Kd.R (Kd.int .i64) 2 w w0.heap.size P0_ u9000_ l0) (h : laws_markInt64S.f k l0 a1 = some (r1, r2)) :
  Calls Tryd.prog 77 #[u9000_, .int .i64 a1] w fun e w' => e = .returned (.int .i64 r1) ∧ Kd.R (Kd.int .i64) 2 w' w0.heap.size (fun k_ => (P0_ k_ ∨ w.heap.size ≤ k_)) u9000_ r2 ∧ Below w0.heap.size w0 w' ∧ Kept w w' (fun k_ => P0_ k_) := by
 have HO0 := Aside0.mk (show Kd.R (Kd.int .i64) 2 w w0.heap.size (fun k_ => (P0_ k_ ∨ w.heap.size ≤ k_)) u9000_ l0 from Kd.R_mono ho0 (fun k_ hk => (.inl hk)))
 have HK := Aside0.mk (Kept.refl w (fun k_ => P0_ k_))
 have HW0 := Aside0.mk hB.size
 have HB := Aside0.mk hB
 clear hB
 have H : (laws_markInt64S.l0 k l0 a1 0) = some (r1, r2) := h
 clear h
 have H' := Aside0.mk H
 clear H
 go_enter Tryd.func77, Tryd.ntmps77
 go_wp2
 go_loopg [1, 5] k (fun kq v1 v5 w' => ∃ (x0_1 : List Int) (x1_1 : Int) (x5_1 : Int), v1 = .int .i64 x1_1 ∧ v5 = .int .i64 x5_1 ∧ Aside0 (laws_markInt64S.l0 kq x0_1 x1_1 x5_1 = some (r1, r2)) ∧ Aside0 (kq ≤ k) ∧ Aside0 (Kd.R (Kd.int .i64) 2 w' w0.heap.size (fun k_ => (P0_ k_ ∨ w.heap.size ≤ k_)) u9000_ x0_1) ∧ Aside0 (Kept w w' (fun k_ => P0_ k_)) ∧ Aside0 (Below w0.heap.size w0 w'))
 case atStart => exact ⟨(l0), (a1), (0), (by first | rfl | (simp; done) | (simp [*]; done) | (simp [wrap64]; done)), (by first | rfl | (simp; done) | (simp [*]; done) | (simp [wrap64]; done)), H', ⟨Nat.le_refl _⟩, ⟨by (with_reducible repeat (first | apply Kd.R_alloc | apply Kd.R_drewN | apply Kd.R_drew)); exact HO0.out⟩, ⟨by repeat (first | (with_reducible first | exact HK.out | apply Kept.alloc | apply Kept.drewN | apply Kept.drew) | exact HK.out)⟩, ⟨by repeat (first | (with_reducible first | exact HB.out | apply below_alloc | apply pw_below_drewN | apply below_drew1) | exact HB.out)⟩⟩
 case round =>
  clear H'
  try clear p2
  obtain ⟨x0_1, x1_1, x5_1, rfl, rfl, HA, HK1, HO_0, HK, HB⟩ := hrel
  cases gk with
  | zero => exact absurd HA.out (by simp [laws_markInt64S.l0])
  | succ k1 =>
   have H := HA.out
   clear HA
   simp only [laws_markInt64S.l0] at H
   by_cases c3 : x5_1 < (x0_1.length : Int)
   ·rw [if_pos c3] at H
    have c3b0 : decide (x5_1 < (x0_1.length : Int)) = true := decide_eq_true c3
    clear c3
    by_cases c4 : 0 ≤ x5_1
    ·rw [if_pos c4] at H
     have c4b0 : decide (0 ≤ x5_1) = true := decide_eq_true c4
     clear c4
     obtain ⟨y106, hy106⟩ : ∃ y_ : List Int, y_ = (x0_1.set (x5_1 : Int).toNat x1_1) := ⟨_, rfl⟩
     replace H : (laws_markInt64S.l0 k1 y106 (wrap64 (x1_1 + 1)) (wrap64 (x5_1 + 1))) = some (r1, r2) := by first | (rw [hy106]; with_reducible exact H) | (have H2_ := (Option.bind_some _ _).symm.trans H; rw [hy106]; with_reducible exact H2_) | (have H2_ := (Option.bind_some _ _).symm.trans H; with_reducible exact H2_) | with_reducible exact H | (rw [hy106]; exact H) | exact H
     have Ny106 := Aside0.mk hy106
     clear hy106
     have H' := Aside0.mk H
     clear H
     obtain ⟨Ao6, co6, eo6⟩ := Kd.R_slice HO_0.out
     subst eo6
     have p5 : 0 ≤ (x5_1 : Int) := of_decide_eq_true (by first | (with_reducible assumption) | assumption)
     have q5 : (x5_1 : Int) < ((x0_1.length : Int) : Int) := of_decide_eq_true (by first | (with_reducible assumption) | assumption)
     obtain ⟨go5, co5, eo5, gb5, gl5, cl5, HG5⟩ := Kd.R_form HO_0.out (by omega)
     (first | cases eo5 | (injection eo5 with ea_ en_ ec_; (first | subst ea_ | (injection ea_ with ea_; subst ea_)); subst ec_; clear en_))
     have GB5 := Aside0.mk gb5
     have GG5 := Aside0.mk HG5
     clear gb5 gl5 HG5
     have HMgo5 := Aside0.mk (show (P0_ go5 ∨ w.heap.size ≤ go5) from (HO_0.out.1 _ rfl))
     obtain ⟨hx5_0, hf5_0⟩ := Kd.R_celln 0 HO_0.out (x5_1 : Int) p5 q5
     replace p5 := eq_true p5
     replace q5 := eq_true q5
     have HP7 := Kd.R_putg HO_0.out (x5_1 : Int) x1_1
     go_wp2_with (first | ((with_reducible refine gate_store (t := 2) (p := 15) rfl ?_); refine store_event (t := 2) (p := 15) (v := ?vo_w8) (w1 := (wr.setCell ⟨go5, (x5_1 : Int).toNat, none⟩ (.int .i64 x1_1))) ?hg ?ho ?hn ?hr ?_; (case ho => rfl); (case hg => rfl); (case hn => rfl); (case hr => first | (go_simp; done) | (go_simp; rfl)); intro w8 hw; have hg : wr.grownBy w8 (some go5) := (by rw [hw]; exact HP7.2); have hp_ : Kd.R (Kd.int .i64) 2 w8 w0.heap.size (fun k_ => (P0_ k_ ∨ w.heap.size ≤ k_)) (.slice (some ⟨go5, 0, none⟩) x0_1.length co6) y106 := (by rw [hw, Ny106.out]; exact HP7.1); clear HP7; have n0_ := Aside0.mk (hp_); have n1_ := Aside0.mk ((by rw [hw]; exact below_set (HB.out) GB5.out : Below w0.heap.size w0 w8)); have n2_ := Aside0.mk (Kept.of_grown (S := (fun k_ => P0_ k_)) hg (by repeat (first | (with_reducible first | exact HK.out | apply Kept.alloc | apply Kept.drewN | apply Kept.drew) | exact HK.out)) (fun k_ e_ => (HO_0.out.1 k_ e_))); clear HO_0; clear HB; clear HK; have HO_0 := n0_; have HB := n1_; have HK := n2_; clear n0_ n1_ n2_; clear hg hw hp_))
     go_roundg k1
     case measure => have := HK1.out; omega
     case rel => exact ⟨(y106), (wrap64 (x1_1 + 1)), (wrap64 (x5_1 + 1)), (by first | rfl | (simp; done) | (simp [*]; done) | (simp [wrap64]; done)), (by first | rfl | (simp; done) | (simp [*]; done) | (simp [wrap64]; done)), H', ⟨by have := HK1.out; omega⟩, ⟨by (with_reducible repeat (first | apply Kd.R_alloc | apply Kd.R_drewN | apply Kd.R_drew)); exact HO_0.out⟩, ⟨by repeat (first | (with_reducible first | exact HK.out | apply Kept.alloc | apply Kept.drewN | apply Kept.drew) | exact HK.out)⟩, ⟨by repeat (first | (with_reducible first | exact HB.out | apply below_alloc | apply pw_below_drewN | apply below_drew1) | exact HB.out)⟩⟩
    ·rw [if_neg c4] at H
     exact absurd H (by simp)
   ·rw [if_neg c3] at H
    have c3b0 : decide (x5_1 < (x0_1.length : Int)) = false := decide_eq_false c3
    clear c3
    simp only [Option.some.injEq, Prod.mk.injEq] at H
    obtain ⟨rfl, rfl⟩ := H
    obtain ⟨Ao9, co9, eo9⟩ := Kd.R_slice HO_0.out
    subst eo9
    go_wp2
    go_ret
    exact ⟨by first | rfl | (simp [errW_none, errW_some] <;> rfl) | (simp [*, errW_none, errW_some] <;> rfl), by (with_reducible repeat (first | apply Kd.R_alloc | apply Kd.R_drewN | apply Kd.R_drew)); exact HO_0.out, by repeat (first | (with_reducible first | exact HB.out | apply below_alloc | apply pw_below_drewN | apply below_drew1) | exact HB.out), by repeat (first | (with_reducible first | exact HK.out | apply Kept.alloc | apply Kept.drewN | apply Kept.drew) | exact HK.out)⟩
end Go.Proofs.YtnjdkhnepmmfgaaDoor.PL1
namespace Go.Proofs.YtnjdkhnepmmfgaaDoor.PL1
open Go.RowKit Go.Proofs.YtnjdkhnepmmfgaaDoorW.PrintWords Go.Proofs.YtnjdkhnepmmfgaaDoorW.PrintLast Go.Proofs.YtnjdkhnepmmfgaaDoorW.PrintMore
attribute [local go_sem] max2_int min2_int max_two min_two max_three min_three max_four min_four   -- for this text's walks alone
set_option linter.unusedVariables false
set_option linter.unusedSimpArgs false
end Go.Proofs.YtnjdkhnepmmfgaaDoor.PL1
namespace Go.Proofs.YtnjdkhnepmmfgaaDoor.PT2
open Go.RowKit Go.Proofs.YtnjdkhnepmmfgaaDoorW.PrintWords Go.Proofs.YtnjdkhnepmmfgaaDoorW.PrintLast Go.Proofs.YtnjdkhnepmmfgaaDoorW.PrintMore PB1 PL1
attribute [local go_sem] max2_int min2_int max_two min_two max_three min_three max_four min_four   -- for this text's walks alone
set_option linter.unusedVariables false
set_option linter.unusedSimpArgs false
def errW : Option Int → Value
 | none => .nilIface
 | some c => .iface 0 (.int .i64 c)
theorem errW_none : errW none = .nilIface := rfl
theorem errW_some (c : Int) : errW (some c) = .iface 0 (.int .i64 c) := rfl
end Go.Proofs.YtnjdkhnepmmfgaaDoor.PT2
namespace Go.Proofs.YtnjdkhnepmmfgaaDoor.PT2
open Go.RowKit Go.Proofs.YtnjdkhnepmmfgaaDoorW.PrintWords Go.Proofs.YtnjdkhnepmmfgaaDoorW.PrintLast Go.Proofs.YtnjdkhnepmmfgaaDoorW.PrintMore PB1 PL1
attribute [local go_sem] max2_int min2_int max_two min_two max_three min_three max_four min_four   -- for this text's walks alone
set_option linter.unusedVariables false
set_option linter.unusedSimpArgs false
/-! ### spec_l00In: function 66 -/
def spec_l00In.f (a0 : Int) (a1 : Int) (a2 : Int) : Option (Bool) := if a0 ≥ a1 then (some (decide (a0 ≤ a2))) else (some false)
set_option maxHeartbeats 8000000 in
set_option maxRecDepth 100000 in
theorem spec_l00In.calls (a0 : Int) (a1 : Int) (a2 : Int) (r : Bool) (w : World) (h : spec_l00In.f a0 a1 a2 = some r) :
  Calls Tryd.prog 66 #[.int .i64 a0, .int .i64 a1, .int .i64 a2] w fun e w' => e = .returned (.bool r) ∧ Drawn0 w w' := by
 have H : (if a0 ≥ a1 then (some (decide (a0 ≤ a2))) else (some false)) = some r := h
 clear h
 by_cases c4 : a0 ≥ a1
 ·rw [if_pos c4] at H
  have c4b0 : decide (a1 ≤ a0) = true := decide_eq_true c4
  clear c4
  obtain rfl := Option.some.inj H
  simp only [Option.some.injEq, Prod.mk.injEq] at H
  obtain ⟨rfl⟩ := H
  go_enter Tryd.func66, Tryd.ntmps66
  go_wp2
  go_ret
  exact ⟨by first | rfl | (simp; done) | (simp [*]; done) | (simp [wrap64]; done), by repeat (first | exact Drawn0.refl _ | apply Drawn0.step)⟩
 ·rw [if_neg c4] at H
  have c4b0 : decide (a1 ≤ a0) = false := decide_eq_false c4
  clear c4
  obtain rfl := Option.some.inj H
  simp only [Option.some.injEq, Prod.mk.injEq] at H
  obtain ⟨rfl⟩ := H
  go_enter Tryd.func66, Tryd.ntmps66
  go_wp2
  go_ret
  exact ⟨by first | rfl | (simp; done) | (simp [*]; done) | (simp [wrap64]; done), by repeat (first | exact Drawn0.refl _ | apply Drawn0.step)⟩
/-! ### impl_within: function 71 -/
def impl_within.f (a0 : Int) (a1 : Int) (a2 : Int) : Option (Bool) := if a1 ≤ a0 then (some (decide (a0 ≤ a2))) else (some false)
set_option maxHeartbeats 8000000 in
set_option maxRecDepth 100000 in
theorem impl_within.calls (a0 : Int) (a1 : Int) (a2 : Int) (r : Bool) (w : World) (h : impl_within.f a0 a1 a2 = some r) :
  Calls Tryd.prog 71 #[.int .i64 a0, .int .i64 a1, .int .i64 a2] w fun e w' => e = .returned (.bool r) ∧ Drawn0 w w' := by
 have H : (if a1 ≤ a0 then (some (decide (a0 ≤ a2))) else (some false)) = some r := h
 clear h
 by_cases c4 : a1 ≤ a0
 ·rw [if_pos c4] at H
  have c4b0 : decide (a1 ≤ a0) = true := decide_eq_true c4
  clear c4
  obtain rfl := Option.some.inj H
  simp only [Option.some.injEq, Prod.mk.injEq] at H
  obtain ⟨rfl⟩ := H
  go_enter Tryd.func71, Tryd.ntmps71
  go_wp2
  go_ret
  exact ⟨by first | rfl | (simp; done) | (simp [*]; done) | (simp [wrap64]; done), by repeat (first | exact Drawn0.refl _ | apply Drawn0.step)⟩
 ·rw [if_neg c4] at H
  have c4b0 : decide (a1 ≤ a0) = false := decide_eq_false c4
  clear c4
  obtain rfl := Option.some.inj H
  simp only [Option.some.injEq, Prod.mk.injEq] at H
  obtain ⟨rfl⟩ := H
  go_enter Tryd.func71, Tryd.ntmps71
  go_wp2
  go_ret
  exact ⟨by first | rfl | (simp; done) | (simp [*]; done) | (simp [wrap64]; done), by repeat (first | exact Drawn0.refl _ | apply Drawn0.step)⟩
/-! ### impl_areTapes: function 100 -/
def impl_areTapes.f (a0 : Int) : Option (Bool) := (impl_within.f a0 1 3).bind fun t101 => (some t101)
set_option maxHeartbeats 8000000 in
set_option maxRecDepth 100000 in
theorem impl_areTapes.calls (a0 : Int) (r : Bool) (w : World) (h : impl_areTapes.f a0 = some r) :
  Calls Tryd.prog 100 #[.int .i64 a0] w fun e w' => e = .returned (.bool r) ∧ Drawn0 w w' := by
 have H : ((impl_within.f a0 1 3).bind fun t101 => (some t101)) = some r := h
 clear h
 replace H := Option.bind_eq_some_iff.mp H
 obtain ⟨t101, A20, H⟩ := H
 replace H : (some t101) = some r := H
 have A2 := Aside0.mk A20
 clear A20
 obtain rfl := Option.some.inj H
 simp only [Option.some.injEq, Prod.mk.injEq] at H
 obtain ⟨rfl⟩ := H
 go_enter Tryd.func100, Tryd.ntmps100
 go_wp2_with (first | ((with_reducible refine gate_callee (f := 71) rfl ?_); refine goesL_ (some 4) rfl rfl Tryd.func71 (by kernel_rfl) rfl #[.int .i64 a0, .int .i64 1, .int .i64 3] rfl (by (try simp only [List.map_toArray, List.map_cons, List.map_nil]); first | done | rfl | (simp only [List.length_drop, List.length_take]; rfl)) ?_; (with_reducible refine (impl_within.calls a0 1 3 t101 _ A2.out).mono ?_); rintro e w' ⟨rfl, ⟨nd, rfl⟩⟩; refine ⟨_, rfl, ?_⟩))
 go_ret
 exact ⟨by first | rfl | (simp; done) | (simp [*]; done) | (simp [wrap64]; done), by repeat (first | exact Drawn0.refl _ | apply Drawn0.step)⟩
end Go.Proofs.YtnjdkhnepmmfgaaDoor.PT2
namespace Go.Proofs.YtnjdkhnepmmfgaaDoor.PT2
open Go.RowKit Go.Proofs.YtnjdkhnepmmfgaaDoorW.PrintWords Go.Proofs.YtnjdkhnepmmfgaaDoorW.PrintLast Go.Proofs.YtnjdkhnepmmfgaaDoorW.PrintMore PB1 PL1
attribute [local go_sem] max2_int min2_int max_two min_two max_three min_three max_four min_four   -- for this text's walks alone
set_option linter.unusedVariables false
set_option linter.unusedSimpArgs false
end Go.Proofs.YtnjdkhnepmmfgaaDoor.PT2
namespace Go.Proofs.YtnjdkhnepmmfgaaDoor.Lr
set_option linter.unusedVariables false
set_option linter.unusedSimpArgs false
open Go.RowKit Go.Proofs.YtnjdkhnepmmfgaaDoorW.PrintWords Go.Proofs.YtnjdkhnepmmfgaaDoorW.PrintLast Go.Proofs.YtnjdkhnepmmfgaaDoorW.PrintMore Kp PB1 PT2 Go.Proofs.YtnjdkhnepmmfgaaDoor.Pure Tf
theorem at_cell {w1 w2 : World} (hb : Below w1.heap.size w1 w2) {p : Addr} {v : Value} (hc : w1.cell? p = some v) : w2.cell? p = some v := (hb.cell (World.block_lt_of_cell? w1 _ hc)).trans hc
/-! ### what is valid -/
def okX (n : Nat) (x : Int) : Bool := decide (0 ≤ x ∧ x < (n : Int))
def okW (t : Int) (n : Nat) (r : List Int) : Bool := decide (r.length = wdOf t.toNat) && r.all (okX n)
/-- The shape of a relation, of any size. -/
def okF (t s : Int) (a : List Bool) (b : List (List Int)) : Bool := decide (1 ≤ t ∧ t ≤ 3) && decide (1 ≤ a.length) && okX a.length s && decide (b.length = a.length) && b.all (okW t a.length)
theorem in_spec (x lo hi : Int) (W : World) : Calls Tryd.prog 66 #[.int .i64 x, .int .i64 lo, .int .i64 hi] W fun e W' => e = .returned (.bool (decide (lo ≤ x ∧ x ≤ hi))) ∧ Below W.heap.size W W' := by
 have h : spec_l00In.f x lo hi = some (decide (lo ≤ x ∧ x ≤ hi)) := by
  unfold spec_l00In.f
  by_cases h : x ≥ lo
  ·rw [if_pos h]; congr 1; rw [decide_eq_decide]; omega
  ·rw [if_neg h]; congr 1; symm; rw [decide_eq_false_iff_not]; omega
 exact (spec_l00In.calls x lo hi _ W h).mono (fun e W' hh => ⟨hh.1, hh.2.below⟩)
theorem in_impl (x lo hi : Int) (W : World) : Calls Tryd.prog 71 #[.int .i64 x, .int .i64 lo, .int .i64 hi] W fun e W' => e = .returned (.bool (decide (lo ≤ x ∧ x ≤ hi))) ∧ Below W.heap.size W W' := by
 have h : impl_within.f x lo hi = some (decide (lo ≤ x ∧ x ≤ hi)) := by
  unfold impl_within.f
  by_cases h : lo ≤ x
  ·rw [if_pos h]; congr 1; rw [decide_eq_decide]; omega
  ·rw [if_neg h]; congr 1; symm; rw [decide_eq_false_iff_not]; omega
 exact (impl_within.calls x lo hi _ W h).mono (fun e W' hh => ⟨hh.1, hh.2.below⟩)
theorem tapes_impl (x : Int) (W : World) : Calls Tryd.prog 100 #[.int .i64 x] W fun e W' => e = .returned (.bool (decide (1 ≤ x ∧ x ≤ 3))) ∧ Below W.heap.size W W' := by
 have h : impl_areTapes.f x = some (decide (1 ≤ x ∧ x ≤ 3)) := by
  unfold impl_areTapes.f impl_within.f
  by_cases h : 1 ≤ x
  ·rw [if_pos h, Option.bind_some]; congr 1; rw [decide_eq_decide]; omega
  ·rw [if_neg h, Option.bind_some]; congr 1; symm; rw [decide_eq_false_iff_not]; omega
 exact (impl_areTapes.calls x _ W h).mono (fun e W' hh => ⟨hh.1, hh.2.below⟩)
theorem wide_specQ {t : Int} (h0 : 0 ≤ t) (h : t ≤ 3) (W : World) : Calls Tryd.prog 53 #[.int .i64 t] W fun e W' => e = .returned (.int .i64 ((wdOf t.toNat : Nat) : Int)) ∧ Drawn0 W W' := by
 have e : ((t.toNat : Nat) : Int) = t := by omega
 exact spec_l01Wide.calls 10 t _ W (by have := (fin_wide t.toNat (by omega)).2; rwa [e] at this)
theorem wide_impl {t : Int} (h0 : 0 ≤ t) (h : t ≤ 3) (W : World) : Calls Tryd.prog 94 #[.int .i64 t] W fun e W' => e = .returned (.int .i64 ((wdOf t.toNat : Nat) : Int)) ∧ Below W.heap.size W W' := by
 have e : ((t.toNat : Nat) : Int) = t := by omega
 exact (impl_widthOf.calls 10 t _ W (by have := (fin_wide t.toNat (by omega)).1; rwa [e] at this)).mono (fun e W' hh => ⟨hh.1, hh.2.below⟩)
theorem in_x {n : Nat} (h1 : 1 ≤ n) (h2 : n ≤ 1048576) (x : Int) : decide (0 ≤ x ∧ x ≤ (n : Int) - 1) = okX n x := by
 unfold okX
 rw [decide_eq_decide]
 omega
theorem all_false {α : Type} {p : α → Bool} {l : List α} {x : α} (hm : x ∈ l) (h : p x = false) : l.all p = false := by
 rw [List.all_eq_false]
 exact ⟨x, hm, by rw [h]; simp⟩
theorem all_take {α : Type} {p : α → Bool} {l : List α} {i : Nat} (hi : i < l.length) (h : (l.take i).all p = true) (hx : p l[i] = true) : (l.take (i + 1)).all p = true := by
 rw [List.take_succ_eq_append_getElem hi, List.all_append, h, List.all_cons, hx]
 rfl
set_option maxHeartbeats 4000000 in
/-- The reference's test of a relation's shape. -/
theorem form (gp : Nat) (t s : Int) (A2 : Option Addr) (c2 : Nat) (a : List Bool) (A3 : Option Addr) (c3 : Nat) (b : List (List Int)) (w : World) (hP : w.heap[gp]? = some (.cells #[.int .i64 t, .int .i64 s, .slice A2 a.length c2, .slice A3 b.length c3] 27 (0, 0)))
  (h3 : Kd.C (Kd.slice 2 (Kd.int .i64)) w A3 b.length b) (l3 : b.length ≤ c3) (ha : a.length ≤ 1048576) (hb : b.length ≤ 1048576) (hs : ∀ r ∈ b, r.length ≤ 1048576) :
  Calls Tryd.prog 96 #[.pointer (some ⟨gp, 0, none⟩)] w fun e w' => e = .returned (.bool (okF t s a b)) ∧ Below w.heap.size w w' := by
 have hgp := blk_lt hP
 have m0 : w.cell? ⟨gp, 0, none⟩ = some (.int .i64 t) := (blk_cell hP 0).trans rfl
 have m1 : w.cell? ⟨gp, 1, none⟩ = some (.int .i64 s) := (blk_cell hP 1).trans rfl
 have m2 : w.cell? ⟨gp, 2, none⟩ = some (.slice A2 a.length c2) := (blk_cell hP 2).trans rfl
 have m3 : w.cell? ⟨gp, 3, none⟩ = some (.slice A3 b.length c3) := (blk_cell hP 3).trans rfl
 have hin := Aside0.mk in_spec
 by_cases ht : 1 ≤ t ∧ t ≤ 3
 ·have ht1 := Aside0.mk (decide_eq_true ht)
  by_cases h1 : 1 ≤ a.length
  ·have h1a : ((a.length : Int) < 1) = False := eq_false (by omega)
   have hwl : wrap64 ((a.length : Int) - 1) = (a.length : Int) - 1 := by unfold wrap64; omega
   cases hx : okX a.length s with
   | false =>
    have hr : okF t s a b = false := by unfold okF; rw [hx, Bool.and_false, Bool.false_and, Bool.false_and]
    rw [hr]
    go_enter Tryd.func96, Tryd.ntmps96
    go_wp2_with (first
     | (go_at_call 66; (with_reducible refine (hin.out t 1 3 _).mono ?_); go_loud (
       rintro e w1 ⟨he, hb1⟩
       rw [ht1.out] at he
       subst he
       have n1 := at_cell hb1 m1
       have n2 := at_cell hb1 m3))
     | (go_at_call 66; (with_reducible refine (hin.out s 0 ((a.length : Int) - 1) _).mono ?_); go_loud (
       rintro e w2 ⟨he, hb2⟩
       rw [in_x h1 ha, hx] at he
       subst he
       have hB2 := below_step hb1 hb2)))
    go_ret
    exact ⟨rfl, hB2⟩
   | true =>
    by_cases hl : b.length = a.length
    ·have hr : okF t s a b = b.all (okW t a.length) := by unfold okF; rw [decide_eq_true ht, decide_eq_true h1, hx, decide_eq_true hl]; simp
     rw [hr]
     have hl1 : ((b.length : Int) = (a.length : Int)) = True := eq_true (by omega)
     have hl2 : ((b.length : Int) == (a.length : Int)) = true := by simp <;> omega
     have hl3 : ((b.length : Int) != (a.length : Int)) = false := by simp <;> omega
     have hlq := Aside0.mk hl
     clear hl
     go_enter Tryd.func96, Tryd.ntmps96
     go_wp2_with (first
      | (go_at_call 66; (with_reducible refine (hin.out t 1 3 _).mono ?_); go_loud (
        rintro e w1 ⟨he, hb1⟩
        rw [ht1.out] at he
        subst he
        have n1 := at_cell hb1 m1
        have n2 := at_cell hb1 m3))
      | (go_at_call 66; (with_reducible refine (hin.out s 0 ((a.length : Int) - 1) _).mono ?_); go_loud (
        rintro e w2 ⟨he, hb2⟩
        rw [in_x h1 ha, hx] at he
        subst he
        have hB2 := below_step hb1 hb2
        have n3 := at_cell hB2 m3)))
     have hwl2 := Aside0.mk hwl
     have hx2 := Aside0.mk hx
     clear hl1 hl2 hl3 n1 n2 n3 hwl hb1 hb2 hx hr
     go_loopg [4] b.length (fun kq v4 W => ∃ i : Nat, v4 = .int .i64 (i : Int) ∧ Aside0 (kq = b.length - i) ∧ i ≤ b.length ∧ Aside0 ((b.take i).all (okW t a.length) = true) ∧ Aside0 (Below w.heap.size w W))
     case atStart => exact ⟨0, rfl, ⟨rfl⟩, Nat.zero_le _, ⟨rfl⟩, ⟨hB2⟩⟩
     case round =>
      clear hB2
      obtain ⟨wo, rfl⟩ : ∃ wo : World, wo = wr := ⟨_, rfl⟩
      obtain ⟨i, rfl, hk, hil, hall, hb⟩ := hrel
      have o0 := at_cell hb.out m0
      have o3 := at_cell hb.out m3
      by_cases hi : i < b.length
      ·obtain ⟨ad, rfl, A9, c9, e9, hl9, hC9⟩ := at_row h3 i hi
       have o9 := at_cell hb.out e9
       have hi1 : ((i : Int) < (b.length : Int)) = True := eq_true (by omega)
       have h0i : (0 ≤ (i : Int)) = True := eq_true (by omega)
       obtain ⟨r, hr⟩ : ∃ r, b[i] = r := ⟨_, rfl⟩
       have hrm : r ∈ b := by rw [← hr]; exact List.getElem_mem hi
       have hrl := hs r hrm
       have hr2 := Aside0.mk hr
       rw [hr] at o9 hl9 hC9
       clear e9 hr
       go_wp2_with fail
       by_cases hw : r.length = wdOf t.toNat
       ·have hw1 : ((r.length : Int) = ((wdOf t.toNat : Nat) : Int)) = True := eq_true (by omega)
        have hw2 : ((r.length : Int) == ((wdOf t.toNat : Nat) : Int)) = true := by simp <;> omega
        have hw3 : ((r.length : Int) != ((wdOf t.toNat : Nat) : Int)) = false := by simp <;> omega
        go_quiet ((go_at_call 53; (with_reducible refine (wide_specQ (by omega) ht.2 _).mono ?_); rintro e w' ⟨rfl, ⟨nd, rfl⟩⟩; (try first | exact ⟨rfl, _, World.drewN_drewN _ _ _⟩ | exact ⟨rfl, _, Eq.trans (World.drewN_drewN _ _ _) (congrArg (World.drewN _) (Nat.add_assoc _ _ _))⟩)))
        generalize nq = n1
        have hb3 := below_step hb.out (pw_below_drewN (Below.refl _ _) n1)
        have hHB := Aside0.mk hb3
        clear hw1 hw2 hw3 o0 o3 o9 hi1 h0i hb3
        generalize wo.drewN n1 = wp at *
        go_wp2_with fail
        go_loopg [5] r.length (fun kz v5 W => ∃ c : Nat, v5 = .int .i64 (c : Int) ∧ Aside0 (kz = r.length - c) ∧ c ≤ r.length ∧ Aside0 ((r.take c).all (okX a.length) = true) ∧ Aside0 (Below w.heap.size w W))
        case atStart => exact ⟨0, rfl, ⟨rfl⟩, Nat.zero_le _, ⟨rfl⟩, hHB⟩
        case round =>
         clear hHB
         obtain ⟨c, rfl, hkz, hcl, hac, hbz⟩ := hrel
         have o3 := at_cell hbz.out m3
         obtain ⟨ad2, e2, A8, c8, e8, hl8, hC8⟩ := at_row h3 i hi
         cases e2
         rw [hr2.out] at e8 hl8 hC8
         have o8 := at_cell hbz.out e8
         have hi1 : ((i : Int) < (b.length : Int)) = True := eq_true (by omega)
         have h0i : (0 ≤ (i : Int)) = True := eq_true (by omega)
         by_cases hc : c < r.length
         ·obtain ⟨ad3, rfl, e7⟩ := at_num hC8 c hc
          have o7 := at_cell hbz.out e7
          obtain ⟨x, hxe⟩ : ∃ x, r[c] = x := ⟨_, rfl⟩
          rw [hxe] at o7
          have hxe2 := Aside0.mk hxe
          have hc1 : ((c : Int) < (r.length : Int)) = True := eq_true (by omega)
          have h0c : (0 ≤ (c : Int)) = True := eq_true (by omega)
          clear e8 e7 hxe
          have hwl := hwl2.out
          cases hxx : okX a.length x with
          | true =>
           go_wp2_with (go_at_call 66; (with_reducible refine (hin.out x 0 ((a.length : Int) - 1) _).mono ?_); go_loud (
            rintro e w2 ⟨he, hb2⟩
            rw [in_x h1 ha, hxx] at he
            subst he
            have hB2 := below_step hbz.out hb2))
           clear hwl
           go_roundg (r.length - (c + 1))
           case measure => have := hkz.out; omega
           case rel => exact ⟨c + 1, (by go_num), ⟨rfl⟩, by omega, ⟨all_take hc hac.out (by rw [hxe2.out]; exact hxx)⟩, ⟨hB2⟩⟩
          | false =>
           go_wp2_with (go_at_call 66; (with_reducible refine (hin.out x 0 ((a.length : Int) - 1) _).mono ?_); go_loud (
            rintro e w2 ⟨he, hb2⟩
            rw [in_x h1 ha, hxx] at he
            subst he
            have hB2 := below_step hbz.out hb2))
           go_ret
           have hf : r.all (okX a.length) = false := all_false (by rw [← hxe2.out]; exact List.getElem_mem hc) hxx
           have hf2 : b.all (okW t a.length) = false := all_false hrm (by unfold okW; rw [hf, Bool.and_false])
           rw [hf2]
           exact ⟨rfl, hB2⟩
         ·have hc1 : ((c : Int) < (r.length : Int)) = False := eq_false (by omega)
          have hac2 := hac.out
          rw [List.take_of_length_le (by omega)] at hac2
          clear e8
          go_wp2_with fail
          go_roundg (b.length - (i + 1))
          case measure => have := hk.out; omega
          case rel => exact ⟨i + 1, (by go_num), ⟨rfl⟩, by omega, ⟨all_take hi hall.out (by rw [hr2.out]; unfold okW; rw [decide_eq_true hw, hac2]; rfl)⟩, hbz⟩
       ·have hw1 : ((r.length : Int) = ((wdOf t.toNat : Nat) : Int)) = False := eq_false (by omega)
        have hw2 : ((r.length : Int) == ((wdOf t.toNat : Nat) : Int)) = false := by simp <;> omega
        have hw3 : ((r.length : Int) != ((wdOf t.toNat : Nat) : Int)) = true := by simp <;> omega
        go_quiet ((go_at_call 53; (with_reducible refine (wide_specQ (by omega) ht.2 _).mono ?_); rintro e w' ⟨rfl, ⟨nd, rfl⟩⟩; (try first | exact ⟨rfl, _, World.drewN_drewN _ _ _⟩ | exact ⟨rfl, _, Eq.trans (World.drewN_drewN _ _ _) (congrArg (World.drewN _) (Nat.add_assoc _ _ _))⟩)))
        have hb3 := below_step hb.out (pw_below_drewN (Below.refl _ _) nq)
        go_wp2_with fail
        go_ret
        have hf2 : b.all (okW t a.length) = false := all_false hrm (by unfold okW; rw [decide_eq_false hw, Bool.false_and])
        rw [hf2]
        exact ⟨rfl, hb3⟩
      ·have hi1 : ((i : Int) < (b.length : Int)) = False := eq_false (by omega)
       have hall2 := hall.out
       rw [List.take_of_length_le (by omega)] at hall2
       go_wp2_with fail
       go_ret
       rw [hall2]
       exact ⟨rfl, hb.out⟩
    ·have hr : okF t s a b = false := by unfold okF; rw [decide_eq_false hl, Bool.and_false, Bool.false_and]
     rw [hr]
     have hl1 : ((b.length : Int) = (a.length : Int)) = False := eq_false (by omega)
     have hl2 : ((b.length : Int) == (a.length : Int)) = false := by simp <;> omega
     have hl3 : ((b.length : Int) != (a.length : Int)) = true := by simp <;> omega
     go_enter Tryd.func96, Tryd.ntmps96
     go_wp2_with (first
      | (go_at_call 66; (with_reducible refine (hin.out t 1 3 _).mono ?_); go_loud (
        rintro e w1 ⟨he, hb1⟩
        rw [ht1.out] at he
        subst he
        have n1 := at_cell hb1 m1
        have n2 := at_cell hb1 m3))
      | (go_at_call 66; (with_reducible refine (hin.out s 0 ((a.length : Int) - 1) _).mono ?_); go_loud (
        rintro e w2 ⟨he, hb2⟩
        rw [in_x h1 ha, hx] at he
        subst he
        have hB2 := below_step hb1 hb2
        have n3 := at_cell hB2 m3)))
     go_ret
     exact ⟨rfl, hB2⟩
  ·have h1a : ((a.length : Int) < 1) = True := eq_true (by omega)
   have hr : okF t s a b = false := by unfold okF; rw [decide_eq_false h1, Bool.and_false, Bool.false_and, Bool.false_and, Bool.false_and]
   rw [hr]
   go_enter Tryd.func96, Tryd.ntmps96
   go_wp2_with (go_at_call 66; (with_reducible refine (hin.out t 1 3 _).mono ?_); go_loud (
     rintro e w1 ⟨he, hb1⟩
     rw [ht1.out] at he
     subst he))
   go_ret
   exact ⟨rfl, hb1⟩
 ·have ht1 := Aside0.mk (decide_eq_false ht)
  have hr : okF t s a b = false := by unfold okF; rw [decide_eq_false ht, Bool.false_and, Bool.false_and, Bool.false_and, Bool.false_and]
  rw [hr]
  go_enter Tryd.func96, Tryd.ntmps96
  go_wp2_with (go_at_call 66; (with_reducible refine (hin.out t 1 3 _).mono ?_); go_loud (
    rintro e w1 ⟨he, hb1⟩
    rw [ht1.out] at he
    subst he))
  go_ret
  exact ⟨rfl, hb1⟩
def okR (t s : Int) (a : List Bool) (b : List (List Int)) : Bool := decide (a.length ≤ 150) && okF t s a b
theorem okR_of (t s : Int) (a : List Bool) (b : List (List Int)) : okR t s a b = (decide (1 ≤ t ∧ t ≤ 3) && (decide (1 ≤ (a.length : Int) ∧ (a.length : Int) ≤ 150) && (decide (b.length = a.length) && (okX a.length s && b.all (okW t a.length))))) := by
 unfold okR okF
 have e : decide (1 ≤ (a.length : Int) ∧ (a.length : Int) ≤ 150) = (decide (1 ≤ a.length) && decide (a.length ≤ 150)) := by
  rw [← Bool.decide_and, decide_eq_decide]
  omega
 rw [e]
 cases decide (1 ≤ t ∧ t ≤ 3) <;> cases decide (1 ≤ a.length) <;> cases decide (a.length ≤ 150) <;> cases decide (b.length = a.length) <;> cases okX a.length s <;> simp
set_option maxHeartbeats 4000000 in
/-- The program's test of a relation. -/
theorem valid (t s : Int) (A2 : Option Addr) (c2 : Nat) (a : List Bool) (A3 : Option Addr) (c3 : Nat) (b : List (List Int)) (w : World)
  (h3 : Kd.C (Kd.slice 2 (Kd.int .i64)) w A3 b.length b) (l3 : b.length ≤ c3) (ha : a.length ≤ 1048576) (hb : b.length ≤ 1048576) (hs : ∀ r ∈ b, r.length ≤ 1048576) :
  Calls Tryd.prog 70 #[.agg #[.int .i64 t, .int .i64 s, .slice A2 a.length c2, .slice A3 b.length c3]] w fun e w' => e = .returned (.bool (okR t s a b)) ∧ Below w.heap.size w w' := by
 have hB0 : Below w.heap.size w (w.alloc (.cells #[.int .i64 t, .int .i64 s, .slice A2 a.length c2, .slice A3 b.length c3] 27)) := below_alloc (Below.refl _ _) _
 have hP := blk_new w (.cells #[.int .i64 t, .int .i64 s, .slice A2 a.length c2, .slice A3 b.length c3] 27)
 have m0 : (w.alloc (.cells #[.int .i64 t, .int .i64 s, .slice A2 a.length c2, .slice A3 b.length c3] 27)).cell? ⟨w.heap.size, 0, none⟩ = some (.int .i64 t) := (blk_cell hP 0).trans rfl
 have m1 : (w.alloc (.cells #[.int .i64 t, .int .i64 s, .slice A2 a.length c2, .slice A3 b.length c3] 27)).cell? ⟨w.heap.size, 1, none⟩ = some (.int .i64 s) := (blk_cell hP 1).trans rfl
 have m2 : (w.alloc (.cells #[.int .i64 t, .int .i64 s, .slice A2 a.length c2, .slice A3 b.length c3] 27)).cell? ⟨w.heap.size, 2, none⟩ = some (.slice A2 a.length c2) := (blk_cell hP 2).trans rfl
 have m3 : (w.alloc (.cells #[.int .i64 t, .int .i64 s, .slice A2 a.length c2, .slice A3 b.length c3] 27)).cell? ⟨w.heap.size, 3, none⟩ = some (.slice A3 b.length c3) := (blk_cell hP 3).trans rfl
 have hin := Aside0.mk in_impl
 rw [okR_of]
 cases ht : decide (1 ≤ t ∧ t ≤ 3) with
 | false =>
  rw [Bool.false_and]
  have ht1 := Aside0.mk ht
  go_enter Tryd.func70, Tryd.ntmps70
  go_wp2_with (go_at_call 100; (with_reducible refine (tapes_impl t _).mono ?_); go_loud (
   rintro e w1 ⟨he, hb1⟩
   rw [ht1.out] at he
   subst he
   have k1 := at_cell hb1 m3))
  go_ret
  exact ⟨rfl, below_step hB0 hb1⟩
 | true =>
 rw [Bool.true_and]
 have ht1 := Aside0.mk ht
 have ht2 := Aside0.mk (of_decide_eq_true ht)
 clear ht
 cases h1 : decide (1 ≤ (a.length : Int) ∧ (a.length : Int) ≤ 150) with
 | false =>
  rw [Bool.false_and]
  have h12 := Aside0.mk h1
  clear h1
  go_enter Tryd.func70, Tryd.ntmps70
  go_wp2_with (first | (go_at_call 100; (with_reducible refine (tapes_impl t _).mono ?_); go_loud (
   rintro e w1 ⟨he, hb1⟩
   rw [ht1.out] at he
   subst he
   have k1 := at_cell hb1 m3)) | (go_at_call 71; (with_reducible refine (hin.out (a.length : Int) 1 150 _).mono ?_); go_loud (
   rintro e w2 ⟨he, hb2⟩
   rw [h12.out] at he
   subst he
   have k2 := at_cell (below_step hb1 hb2) m3
   have k3 := at_cell (below_step hb1 hb2) m1
   have hB2 := below_step hB0 (below_step hb1 hb2))))
  go_ret
  exact ⟨rfl, hB2⟩
 | true =>
 rw [Bool.true_and]
 have h12 := Aside0.mk h1
 have h13 : 1 ≤ a.length ∧ a.length ≤ 150 := by have := of_decide_eq_true h1; omega
 clear h1
 by_cases hl : b.length = a.length
 case neg =>
  have hl1 : ((b.length : Int) = (a.length : Int)) = False := eq_false (by omega)
  have hl2 : ((b.length : Int) == (a.length : Int)) = false := by simp <;> omega
  have hl3 : ((b.length : Int) != (a.length : Int)) = true := by simp <;> omega
  rw [decide_eq_false hl, Bool.false_and]
  go_enter Tryd.func70, Tryd.ntmps70
  go_wp2_with (first | (go_at_call 100; (with_reducible refine (tapes_impl t _).mono ?_); go_loud (
   rintro e w1 ⟨he, hb1⟩
   rw [ht1.out] at he
   subst he
   have k1 := at_cell hb1 m3)) | (go_at_call 71; (with_reducible refine (hin.out (a.length : Int) 1 150 _).mono ?_); go_loud (
   rintro e w2 ⟨he, hb2⟩
   rw [h12.out] at he
   subst he
   have k2 := at_cell (below_step hb1 hb2) m3
   have k3 := at_cell (below_step hb1 hb2) m1
   have hB2 := below_step hB0 (below_step hb1 hb2))))
  go_ret
  exact ⟨rfl, hB2⟩
 have hl1 : ((b.length : Int) = (a.length : Int)) = True := eq_true (by omega)
 have hl2 : ((b.length : Int) == (a.length : Int)) = true := by simp <;> omega
 have hl3 : ((b.length : Int) != (a.length : Int)) = false := by simp <;> omega
 have hwl : wrap64 ((a.length : Int) - 1) = (a.length : Int) - 1 := by unfold wrap64; omega
 rw [decide_eq_true hl, Bool.true_and]
 clear hl
 cases hx : okX a.length s with
 | false =>
  rw [Bool.false_and]
  have hx2 := Aside0.mk hx
  clear hx
  go_enter Tryd.func70, Tryd.ntmps70
  go_wp2_with (first | (go_at_call 100; (with_reducible refine (tapes_impl t _).mono ?_); go_loud (
   rintro e w1 ⟨he, hb1⟩
   rw [ht1.out] at he
   subst he
   have k1 := at_cell hb1 m3)) | (go_at_call 71; (with_reducible refine (hin.out (a.length : Int) 1 150 _).mono ?_); go_loud (
   rintro e w2 ⟨he, hb2⟩
   rw [h12.out] at he
   subst he
   have k2 := at_cell (below_step hb1 hb2) m3
   have k3 := at_cell (below_step hb1 hb2) m1
   have hB2 := below_step hB0 (below_step hb1 hb2))) | (go_at_call 71; (with_reducible refine (hin.out s 0 ((a.length : Int) - 1) _).mono ?_); go_loud (
   rintro e w3 ⟨he, hb3⟩
   rw [in_x h13.1 ha, hx2.out] at he
   subst he
   have k4 := at_cell (below_step (below_step hb1 hb2) hb3) m3
   have k5 := at_cell (below_step (below_step hb1 hb2) hb3) m1
   have hBB := Aside0.mk (below_step (below_step hb1 hb2) hb3)
   have hB3 := below_step hB2 hb3)))
  go_ret
  exact ⟨rfl, hB3⟩
 | true =>
 rw [Bool.true_and]
 have hx2 := Aside0.mk hx
 clear hx
 go_enter Tryd.func70, Tryd.ntmps70
 go_wp2_with (first | (go_at_call 100; (with_reducible refine (tapes_impl t _).mono ?_); go_loud (
   rintro e w1 ⟨he, hb1⟩
   rw [ht1.out] at he
   subst he
   have k1 := at_cell hb1 m3)) | (go_at_call 71; (with_reducible refine (hin.out (a.length : Int) 1 150 _).mono ?_); go_loud (
   rintro e w2 ⟨he, hb2⟩
   rw [h12.out] at he
   subst he
   have k2 := at_cell (below_step hb1 hb2) m3
   have k3 := at_cell (below_step hb1 hb2) m1
   have hB2 := below_step hB0 (below_step hb1 hb2))) | (go_at_call 71; (with_reducible refine (hin.out s 0 ((a.length : Int) - 1) _).mono ?_); go_loud (
   rintro e w3 ⟨he, hb3⟩
   rw [in_x h13.1 ha, hx2.out] at he
   subst he
   have k4 := at_cell (below_step (below_step hb1 hb2) hb3) m3
   have k5 := at_cell (below_step (below_step hb1 hb2) hb3) m1
   have hBB := Aside0.mk (below_step (below_step hb1 hb2) hb3)
   have hB3 := below_step hB2 hb3)))
 have hwl2 := Aside0.mk hwl
 have hb4 := Aside0.mk hb3
 clear hl1 hl2 hl3 hwl hb1 hb2 hb3 k1 k2 k3 k4 k5 hB2 hB3
 have hBz : Below (w.alloc (.cells #[.int .i64 t, .int .i64 s, .slice A2 a.length c2, .slice A3 b.length c3] 27)).heap.size (w.alloc (.cells #[.int .i64 t, .int .i64 s, .slice A2 a.length c2, .slice A3 b.length c3] 27)) w3 := hBB.out
 clear hBB hb4
 go_loopg [38] b.length (fun kq v38 W => ∃ i : Nat, v38 = .int .i64 (i : Int) ∧ Aside0 (kq = b.length - i) ∧ i ≤ b.length ∧ Aside0 ((b.take i).all (okW t a.length) = true) ∧ Aside0 (Below (w.alloc (.cells #[.int .i64 t, .int .i64 s, .slice A2 a.length c2, .slice A3 b.length c3] 27)).heap.size (w.alloc (.cells #[.int .i64 t, .int .i64 s, .slice A2 a.length c2, .slice A3 b.length c3] 27)) W))
 case atStart => exact ⟨0, rfl, ⟨rfl⟩, Nat.zero_le _, ⟨rfl⟩, ⟨hBz⟩⟩
 case round =>
  clear hBz
  obtain ⟨wo, rfl⟩ : ∃ wo : World, wo = wr := ⟨_, rfl⟩
  obtain ⟨i, rfl, hk, hil, hall, hbo⟩ := hrel
  have o0 := at_cell hbo.out m0
  by_cases hi : i < b.length
  ·obtain ⟨ad, rfl, A9, c9, e9, hl9, hC9⟩ := at_row h3 i hi
   have o9 := at_cell (below_step hB0 hbo.out) e9
   have hi1 : ((i : Int) < (b.length : Int)) = True := eq_true (by omega)
   have h0i : (0 ≤ (i : Int)) = True := eq_true (by omega)
   obtain ⟨r, hr⟩ : ∃ r, b[i] = r := ⟨_, rfl⟩
   have hrm : r ∈ b := by rw [← hr]; exact List.getElem_mem hi
   have hrl := hs r hrm
   have hr2 := Aside0.mk hr
   rw [hr] at o9 hl9 hC9
   clear e9 hr
   by_cases hw : r.length = wdOf t.toNat
   ·have hw1 : ((r.length : Int) = ((wdOf t.toNat : Nat) : Int)) = True := eq_true (by omega)
    have hw2 : ((r.length : Int) == ((wdOf t.toNat : Nat) : Int)) = true := by simp <;> omega
    have hw3 : ((r.length : Int) != ((wdOf t.toNat : Nat) : Int)) = false := by simp <;> omega
    have hwq := Aside0.mk hw
    clear hw
    go_wp2_with (go_at_call 94; (with_reducible refine (wide_impl (by have := ht2.out; omega) ht2.out.2 _).mono ?_); go_loud (
     rintro e w4 ⟨rfl, hb4⟩))
    have hHB := Aside0.mk (below_step hbo.out hb4)
    clear hw1 hw2 hw3 o0 o9 hb4
    go_loopg [50] r.length (fun kz v50 W => ∃ c : Nat, v50 = .int .i64 (c : Int) ∧ Aside0 (kz = r.length - c) ∧ c ≤ r.length ∧ Aside0 ((r.take c).all (okX a.length) = true) ∧ Aside0 (Below (w.alloc (.cells #[.int .i64 t, .int .i64 s, .slice A2 a.length c2, .slice (some ad) b.length c3] 27)).heap.size (w.alloc (.cells #[.int .i64 t, .int .i64 s, .slice A2 a.length c2, .slice (some ad) b.length c3] 27)) W))
    case atStart => exact ⟨0, rfl, ⟨rfl⟩, Nat.zero_le _, ⟨rfl⟩, hHB⟩
    case round =>
     clear hHB
     obtain ⟨c, rfl, hkz, hcl, hac, hbz⟩ := hrel
     by_cases hc : c < r.length
     ·obtain ⟨ad3, rfl, e7⟩ := at_num hC9 c hc
      have o7 := at_cell (below_step hB0 hbz.out) e7
      obtain ⟨x, hxe⟩ : ∃ x, r[c] = x := ⟨_, rfl⟩
      rw [hxe] at o7
      have hxe2 := Aside0.mk hxe
      have hc1 : ((c : Int) < (r.length : Int)) = True := eq_true (by omega)
      have h0c : (0 ≤ (c : Int)) = True := eq_true (by omega)
      clear e7 hxe
      have hwl := hwl2.out
      cases hxx : okX a.length x with
      | true =>
       go_wp2_with (go_at_call 71; (with_reducible refine (hin.out x 0 ((a.length : Int) - 1) _).mono ?_); go_loud (
        rintro e w2 ⟨he, hb2⟩
        rw [in_x h13.1 ha, hxx] at he
        subst he
        have hB2 := below_step hbz.out hb2))
       clear hwl
       go_roundg (r.length - (c + 1))
       case measure => have := hkz.out; omega
       case rel => exact ⟨c + 1, (by go_num), ⟨rfl⟩, by omega, ⟨all_take hc hac.out (by rw [hxe2.out]; exact hxx)⟩, ⟨hB2⟩⟩
      | false =>
       go_wp2_with (go_at_call 71; (with_reducible refine (hin.out x 0 ((a.length : Int) - 1) _).mono ?_); go_loud (
        rintro e w2 ⟨he, hb2⟩
        rw [in_x h13.1 ha, hxx] at he
        subst he
        have hB2 := below_step hbz.out hb2))
       go_ret
       have hf : r.all (okX a.length) = false := all_false (by rw [← hxe2.out]; exact List.getElem_mem hc) hxx
       have hf2 : b.all (okW t a.length) = false := all_false hrm (by unfold okW; rw [hf, Bool.and_false])
       rw [hf2]
       exact ⟨rfl, below_step hB0 hB2⟩
     ·have hc1 : ((c : Int) < (r.length : Int)) = False := eq_false (by omega)
      have hac2 := hac.out
      rw [List.take_of_length_le (by omega)] at hac2
      go_wp2_with fail
      go_roundg (b.length - (i + 1))
      case measure => have := hk.out; omega
      case rel => exact ⟨i + 1, (by go_num), ⟨rfl⟩, by omega, ⟨all_take hi hall.out (by rw [hr2.out]; unfold okW; rw [decide_eq_true hwq.out, hac2]; rfl)⟩, hbz⟩
   ·have hw1 : ((r.length : Int) = ((wdOf t.toNat : Nat) : Int)) = False := eq_false (by omega)
    have hw2 : ((r.length : Int) == ((wdOf t.toNat : Nat) : Int)) = false := by simp <;> omega
    have hw3 : ((r.length : Int) != ((wdOf t.toNat : Nat) : Int)) = true := by simp <;> omega
    go_wp2_with (go_at_call 94; (with_reducible refine (wide_impl (by have := ht2.out; omega) ht2.out.2 _).mono ?_); go_loud (
     rintro e w4 ⟨rfl, hb4⟩))
    go_ret
    have hf2 : b.all (okW t a.length) = false := all_false hrm (by unfold okW; rw [decide_eq_false hw, Bool.false_and])
    rw [hf2]
    exact ⟨rfl, below_step (below_step hB0 hbo.out) hb4⟩
  ·have hi1 : ((i : Int) < (b.length : Int)) = False := eq_false (by omega)
   have hall2 := hall.out
   rw [List.take_of_length_le (by omega)] at hall2
   go_wp2_with fail
   go_ret
   rw [hall2]
   exact ⟨rfl, below_step hB0 hbo.out⟩
end Go.Proofs.YtnjdkhnepmmfgaaDoor.Lr
namespace Go.Proofs.YtnjdkhnepmmfgaaDoor.Rw
set_option linter.unusedVariables false
set_option linter.unusedSimpArgs false
open Go.RowKit Go.Proofs.YtnjdkhnepmmfgaaDoorW.PrintWords Go.Proofs.YtnjdkhnepmmfgaaDoorW.PrintLast Go.Proofs.YtnjdkhnepmmfgaaDoorW.PrintMore Mp Kp PL1 Go.Proofs.YtnjdkhnepmmfgaaDoor.Pure
abbrev Row : Kd (List Int) := Kd.slice 2 (Kd.int .i64)
theorem info_row : (Tryd.prog.info? 75).map (fun i => (i.zero, i.size, i.bytes)) = some (some (.slice none 0 0), 1, 24) := by kernel_rfl
theorem set_row (l : List (List Int)) {i : Nat} (hi : i < l.length) : (l.take i ++ List.replicate (l.length - i) []).set i l[i] = l.take (i + 1) ++ List.replicate (l.length - (i + 1)) [] := by
 have e : l.length - i = (l.length - (i + 1)) + 1 := by omega
 have ht : (l.take i).length = i := by simp; omega
 rw [e, List.replicate_succ, List.set_append_right _ _ (by omega), ht, Nat.sub_self, List.set_cons_zero, List.take_succ_eq_append_getElem hi, List.append_assoc]
 rfl
/-- A new row is put into a row of rows. -/
theorem put_row {w0 w w1 : World} {g n cap i : Nat} {v5 : Value} {r : List Int} {ys : List (List Int)} (h : Kd.S Row 75 w w0.heap.size (fun _ => True) (.slice (some ⟨g, 0, none⟩) n cap) ys) (hn : i < n)
  (hR : (Kd.int .i64).R 2 w1 w.heap.size (fun _ => True) v5 r) (hb : Below w.heap.size w w1) (hw : w0.heap.size ≤ w.heap.size) :
  (∃ ve, w1.cell? ⟨g, i, none⟩ = some ve) ∧ w1.frozen? ⟨g, i, none⟩ = false ∧ Kd.S Row 75 (w1.setCell ⟨g, i, none⟩ v5) w0.heap.size (fun _ => True) (.slice (some ⟨g, 0, none⟩) n cap) (ys.set i r) := by
 have h1 := Kd.S_elder' h (Kd.R_base hR) hb
 have hT := Kd.S_typed h1
 have h2 : Kd.S Row 75 w1 w0.heap.size (fun k => (fun _ => True) k ∧ ¬ (fun k => some k = v5.ownBlock) k) (.slice (some ⟨g, 0, none⟩) n cap) ys := Kd.S_mono h1 (fun k hk => ⟨trivial, fun e => hk.2 e⟩)
 obtain ⟨oki, ce, hcl, hM, hcc, hfr, hoki, hH⟩ := Kd.S_elem h2 [] (i : Int) (by omega) (by omega)
 have hR2 := Kd.R_lower hR hw
 have hap := Kd.R_mono (ok' := fun k => (fun _ => True) k ∧ k ≠ g) (Kd.R_apart' hR2 hT (by decide)) (fun k hk => ⟨trivial, fun e => hk.2 (by rw [e]; rfl)⟩)
 obtain ⟨ve, rfl, ge⟩ := hM
 have hP := Kd.S_seg hH (by omega) (by omega) (seg := [v5]) (j := 0) (show 1 ≤ 1 from by decide) (x' := r) (Kd.M_row (Kd.R_mono (Kd.R_tight rfl hap) (fun _ h => Or.inr h))) (fun _ hk => hk) (fun k hk => hap.1 k hk.symm)
 have hc0 := hcc 0 _ rfl
 have hf0 := hfr 0
 have es : Row.sz = 1 := rfl
 simp only [es, Nat.mul_one, Nat.add_zero, Int.toNat_natCast] at hc0 hf0 hP
 exact ⟨⟨_, hc0⟩, hf0, hP.1⟩
set_option maxHeartbeats 2000000 in
set_option maxRecDepth 100000 in
theorem toRows (A0 : Option Addr) (c0 : Nat) (l0 : List (List Int)) (w : World) (hr0 : Kd.C Row w A0 l0.length l0) (hc0 : l0.length ≤ c0) (hl : l0.length ≤ 1048576)
  (hcall : ∀ W A c (r : List Int), r ∈ l0 → Kd.C (Kd.int .i64) W A r.length r → r.length ≤ c → Calls Tryd.prog 69 #[.slice A r.length c] W fun e W' => ∃ v, e = .returned v ∧ (Kd.int .i64).R 2 W' W.heap.size (fun _ => True) v r ∧ Below W.heap.size W W') :
  Calls Tryd.prog 28 #[.slice A0 l0.length c0] w fun e w' => ∃ v, e = .returned v ∧ Kd.S Row 75 w' w.heap.size (fun _ => True) v l0 ∧ Below w.heap.size w w' := by
 have hcal := Aside0.mk hcall
 clear hcall
 go_enter Tryd.func28, Tryd.ntmps28
 go_wp2_with ((with_reducible refine gate_dst (N := 7) rfl ?_); go_loud (
  refine Kd.S_make Row (w0 := w) w.heap.size 75 rfl (N := 7) rfl 23 _ _ rfl (l0.length : Int) rfl rfl Tryd.underlying23 (.slice none 0 0) 24 info_row rfl (by decide) (by decide) [] (ok := fun _ => True) (okp := fun _ => False) ⟨_, rfl, Kd.R_nil _ _ _ _ _⟩ (fun _ h => h.elim) trivial (by omega) (by simp; omega) (Below.refl _ _) (Nat.le_refl _) ?_
  intro v1 w1 hS1 hb1 hg1 hn1
  rw [Int.toNat_natCast] at hS1
  obtain ⟨A1, c1, hv1⟩ := Kd.S_slice hS1
  rw [List.length_replicate] at hv1
  subst hv1))
 clear hg1 hn1
 go_loopg [4] l0.length (fun kq v4 W => ∃ i : Nat, v4 = .int .i64 (i : Int) ∧ Aside0 (kq = l0.length - i) ∧ i ≤ l0.length ∧ Aside0 (Kd.S Row 75 W w.heap.size (fun _ => True) (.slice A1 l0.length c1) (l0.take i ++ List.replicate (l0.length - i) [])) ∧ Aside0 (Below w.heap.size w W))
 case atStart => exact ⟨0, rfl, ⟨rfl⟩, Nat.zero_le _, ⟨by simpa using hS1⟩, ⟨hb1⟩⟩
 case round =>
  clear hS1 hb1
  obtain ⟨i, rfl, hk, hil, hS, hb⟩ := hrel
  by_cases hi : i < l0.length
  ·obtain ⟨ad, rfl, A9, c9, e9, hl9, hC9⟩ := at_row hr0 i hi
   have e9' := (hb.out.cell (World.block_lt_of_cell? w _ e9)).trans e9
   have hi1 : ((i : Int) < (l0.length : Int)) = True := eq_true (by omega)
   have h0i : (0 ≤ (i : Int)) = True := eq_true (by omega)
   obtain ⟨g, cg, hvg, hgb, hgl, cells, hcg⟩ := Kd.S_form hS.out (by simp; omega)
   obtain ⟨rfl, rfl⟩ : A1 = some ⟨g, 0, none⟩ ∧ c1 = cg := by
    simp only [Value.slice.injEq] at hvg
    exact ⟨hvg.1, hvg.2.2⟩
   obtain ⟨r, hr⟩ : ∃ r, l0[i] = r := ⟨_, rfl⟩
   have hrm : r ∈ l0 := by rw [← hr]; exact List.getElem_mem hi
   have hst := Aside0.mk (set_row l0 hi)
   rw [hr] at hst e9' hl9 hC9
   clear hvg hcg cells e9 hr
   go_wp2_with (go_at_call 69; go_loud (
    with_reducible refine (hcal.out _ _ _ r hrm (Kd.C_below hC9 hb.out) hl9).mono ?_
    rintro e w5 ⟨v5, rfl, hR5, hb5⟩
    obtain ⟨⟨ve, hx5⟩, hf5, hP5⟩ := put_row (w0 := w) hS.out (i := i) hi hR5 hb5 (Below.size hb.out)
    have hB5 := (below_step hb.out hb5).setCell (p := ⟨g, i, none⟩) hgb v5
    obtain ⟨A5, c5, hv5⟩ := Kd.R_slice hR5
    subst hv5))
   go_roundg (l0.length - (i + 1))
   case measure => have := hk.out; omega
   case rel => exact ⟨i + 1, (by go_num), ⟨rfl⟩, by omega, ⟨by rw [← hst.out]; exact hP5⟩, ⟨hB5⟩⟩
  ·have hi1 : ((i : Int) < (l0.length : Int)) = False := eq_false (by omega)
   obtain rfl : i = l0.length := by omega
   have hS2 := hS.out
   rw [List.take_of_length_le (Nat.le_refl _), Nat.sub_self, List.replicate_zero, List.append_nil] at hS2
   go_wp2_with fail
   go_ret
   exact ⟨_, rfl, hS2, hb.out⟩
/-! ### told -/
theorem toLongs_ev (xs : List Int) (h : xs.length ≤ 1048576) : Ev (fun k => laws_toInt64S.f k xs) xs := by
 have key := ev_copy (fun k ys i => laws_toInt64S.l0 k xs ys i) xs 0
  (fun ys hy => ev_const (fun k => by simp [laws_toInt64S.l0]))
  (fun i hi ys r hy H => ev_step (fun k => by
   simp only [laws_toInt64S.l0]
   rw [if_pos (by omega), if_pos (by omega), if_pos (by omega), rd_nat xs i hi, wrap_up (by omega), Int.toNat_natCast]) H)
 exact Ev.congr (fun k => by unfold laws_toInt64S.f; rw [if_pos (by omega), if_pos (by simp; omega)]; simp) key
def laws_toInt64SS.f (l0 : List (List Int)) : Option (List (List Int)) := if l0.length ≤ 1048576 ∧ ∀ r ∈ l0, r.length ≤ 1048576 then some l0 else none
theorem laws_toInt64SS.calls (A0 : Option Addr) (c0 : Nat) (l0 : List (List Int)) (r : List (List Int)) (w : World) (hr0 : Kd.C (Kd.slice 2 (Kd.int .i64)) w A0 l0.length l0) (hc0 : l0.length ≤ c0) (h : laws_toInt64SS.f l0 = some r) :
  Calls Tryd.prog 28 #[.slice A0 l0.length c0] w fun e w' => ∃ v0_ : Value, e = .returned (v0_) ∧ Kd.S (Kd.slice 2 (Kd.int .i64)) 75 w' w.heap.size (fun _ => True) v0_ r ∧ Below w.heap.size w w' := by
 unfold laws_toInt64SS.f at h
 split at h
 ·rename_i hh
  obtain rfl := Option.some.inj h
  refine toRows A0 c0 l0 w hr0 hc0 hh.1 (fun W A c r hr hC hc => ?_)
  obtain ⟨k, hk⟩ := (toLongs_ev r (hh.2 r hr)).rounds
  exact laws_toInt64S.calls k A c r r W hC hc hk
 ·cases h
end Go.Proofs.YtnjdkhnepmmfgaaDoor.Rw
namespace Go.Proofs.YtnjdkhnepmmfgaaDoor.PT3
open Go.RowKit Go.Proofs.YtnjdkhnepmmfgaaDoorW.PrintWords Go.Proofs.YtnjdkhnepmmfgaaDoorW.PrintLast Go.Proofs.YtnjdkhnepmmfgaaDoorW.PrintMore PL1 Rw
attribute [local go_sem] max2_int min2_int max_two min_two max_three min_three max_four min_four   -- for this text's walks alone
set_option linter.unusedVariables false
set_option linter.unusedSimpArgs false
def errW : Option Int → Value
 | none => .nilIface
 | some c => .iface 0 (.int .i64 c)
theorem errW_none : errW none = .nilIface := rfl
theorem errW_some (c : Int) : errW (some c) = .iface 0 (.int .i64 c) := rfl
theorem info4 : (Tryd.prog.info? 4).map (fun i => (i.zero, i.size, i.bytes)) = some (some (.bool false), 1, 1) := by kernel_rfl
def rd_L2 (xs : List (List Int)) (i : Int) : (List Int) := xs.getD i.toNat ([] : List Int)
theorem at_L2 {w : World} {A : Option Addr} {n : Nat} {xs : List (List Int)} (h : Kd.C (Kd.slice 2 (Kd.int .i64)) w A n xs) (i : Int) (h0 : 0 ≤ i) (h1 : i < n) : ∃ ad A0 c0, A = some ad ∧ w.cell? (ad.add i.toNat) = some (.slice A0 (rd_L2 xs i).length c0) ∧ (rd_L2 xs i).length ≤ c0 ∧ (Kd.int .i64).C w A0 (rd_L2 xs i).length (rd_L2 xs i) := by
 obtain ⟨ad, c, e, _, hK, hc0⟩ := Kd.C_get h ([] : List Int) i h0 h1
 have hc : ∀ j u, c[j]? = some u → w.cell? (ad.add (i.toNat * 1 + j)) = some u := hc0
 obtain ⟨A0, c0, rfl, l0, g0⟩ := hK
 exact ⟨ad, A0, c0, e, by have hq := hc 0 _ rfl; rwa [Nat.mul_one, Nat.add_zero] at hq, l0, g0⟩
end Go.Proofs.YtnjdkhnepmmfgaaDoor.PT3
namespace Go.Proofs.YtnjdkhnepmmfgaaDoor.PT3
open Go.RowKit Go.Proofs.YtnjdkhnepmmfgaaDoorW.PrintWords Go.Proofs.YtnjdkhnepmmfgaaDoorW.PrintLast Go.Proofs.YtnjdkhnepmmfgaaDoorW.PrintMore PL1 Rw
attribute [local go_sem] max2_int min2_int max_two min_two max_three min_three max_four min_four   -- for this text's walks alone
set_option linter.unusedVariables false
set_option linter.unusedSimpArgs false
/-! ### laws_toBoolS: function 27 -/
def laws_toBoolS.l0 : Nat → List Bool → List Bool → Int → Option (List Bool)
 | 0, _, _, _ => none
 | k + 1, x0, x3, x4 => if x4 < (x0.length : Int) then (if 0 ≤ x4 then (if x4 < (x3.length : Int) then (laws_toBoolS.l0 k x0 (x3.set (x4 : Int).toNat (rdOf false x0 x4)) (wrap64 (x4 + 1))) else (none)) else (none)) else (some x3)
def laws_toBoolS.f (k : Nat) (l0 : List Bool) : Option (List Bool) := if 0 ≤ (l0.length : Int) then (if ((l0.length : Int) : Int).toNat ≤ 281474976710656 then (laws_toBoolS.l0 k l0 (List.replicate ((l0.length : Int) : Int).toNat false) 0) else (none)) else (none)
theorem laws_toBoolS.mono_l : ∀ k, (∀ y0 y1 y2, LeO (laws_toBoolS.l0 k y0 y1 y2) (laws_toBoolS.l0 (k + 1) y0 y1 y2))
 | 0 => fun _ _ _ r h => by simp [laws_toBoolS.l0] at h
 | k + 1 => by
  have ih0 := laws_toBoolS.mono_l k
  ·intro y0 y1 y2
   unfold laws_toBoolS.l0
   repeat' first
   | (with_reducible exact ih0 _ _ _)
   | (with_reducible exact LeO.refl _)
   | (with_reducible exact LeO.none _)
   | (with_reducible refine LeO.ite ?_ ?_)
   | (with_reducible refine LeO.bind ?_ (fun _ => ?_))
   | exact ih0 _ _ _
   | exact LeO.none _
   | refine LeO.ite ?_ ?_
   | refine LeO.bind ?_ (fun _ => ?_)
theorem laws_toBoolS.mono : ∀ a0 k, LeO (laws_toBoolS.f k a0) (laws_toBoolS.f (k + 1) a0) := by
 intro a0 k
 have ih0 := laws_toBoolS.mono_l k
 unfold laws_toBoolS.f
 repeat' first
   | (with_reducible exact ih0 _ _ _)
   | (with_reducible exact LeO.refl _)
   | (with_reducible exact LeO.none _)
   | (with_reducible refine LeO.ite ?_ ?_)
   | (with_reducible refine LeO.bind ?_ (fun _ => ?_))
   | exact ih0 _ _ _
   | exact LeO.none _
   | refine LeO.ite ?_ ?_
   | refine LeO.bind ?_ (fun _ => ?_)
set_option maxHeartbeats 8000000 in
set_option maxRecDepth 100000 in
theorem laws_toBoolS.calls (k : Nat) (A0 : Option Addr) (c0 : Nat) (l0 : List Bool) (r : List Bool) (w : World) (hr0 : Kd.C Kd.bool w A0 l0.length l0) (hc0 : l0.length ≤ c0) (h : laws_toBoolS.f k l0 = some r) :
  Calls Tryd.prog 27 #[.slice A0 l0.length c0] w fun e w' => ∃ v0_ : Value, e = .returned (v0_) ∧ Kd.R Kd.bool 4 w' w.heap.size (fun _ => True) v0_ r ∧ Below w.heap.size w w' := by
 have HR0 := Aside0.mk hr0
 have HC0 := Aside0.mk hc0
 clear hr0 hc0
 have HB := Aside0.mk (Below.refl w.heap.size w)
 have H : (if 0 ≤ (l0.length : Int) then (if ((l0.length : Int) : Int).toNat ≤ 281474976710656 then (laws_toBoolS.l0 k l0 (List.replicate ((l0.length : Int) : Int).toNat false) 0) else (none)) else (none)) = some r := h
 clear h
 by_cases c2 : 0 ≤ (l0.length : Int)
 ·rw [if_pos c2] at H
  have c2b0 := eq_true c2
  have c2b1 : decide (0 ≤ (l0.length : Int)) = true := decide_eq_true c2
  clear c2
  by_cases c3 : ((l0.length : Int) : Int).toNat ≤ 281474976710656
  ·rw [if_pos c3] at H
   have c3b0 := eq_true c3
   have c3b1 : decide (((l0.length : Int) : Int).toNat ≤ 281474976710656) = true := decide_eq_true c3
   clear c3
   obtain ⟨y101, hy101⟩ : ∃ y_ : List Bool, y_ = (List.replicate ((l0.length : Int) : Int).toNat false) := ⟨_, rfl⟩
   replace H : (laws_toBoolS.l0 k l0 y101 0) = some r := by first | (rw [hy101]; with_reducible exact H) | (have H2_ := (Option.bind_some _ _).symm.trans H; rw [hy101]; with_reducible exact H2_) | (have H2_ := (Option.bind_some _ _).symm.trans H; with_reducible exact H2_) | with_reducible exact H | (rw [hy101]; exact H) | exact H
   have Ny101 := Aside0.mk hy101
   clear hy101
   have H' := Aside0.mk H
   clear H
   go_enter Tryd.func27, Tryd.ntmps27
   go_wp2_with (first | ((with_reducible refine gate_dst (N := 7) rfl ?_); refine Kd.R_make Kd.bool _ 4 rfl (N := 7) rfl 22 _ _ rfl (l0.length : Int) rfl rfl Tryd.underlying22 (.bool false) 1 info4 rfl (by decide) (by omega) false (ok := fun _ => True) (okp := fun _ => True) rfl (fun _ hk => hk) trivial (of_decide_eq_true (by first | (with_reducible assumption) | assumption)) (Nat.le_trans (Nat.mul_le_mul_right _ (of_decide_eq_true (by first | (with_reducible assumption) | assumption) : (l0.length : Int).toNat ≤ 281474976710656)) (by omega)) (Below.refl _ _) (Nat.le_refl _) ?_; intro v102 w4 ho5 hb hg_ hnew_; clear hg_ hnew_; (first | rw [← Ny101.out] at ho5 | (simp only [Int.reduceToNat] at ho5; rw [← Ny101.out] at ho5)); have n0_ := Aside0.mk (Kd.R_lower ho5 (below_size (by repeat (first | (with_reducible first | exact HB.out | apply below_alloc | apply pw_below_drewN | apply below_drew1) | exact HB.out)))); have n1_ := Aside0.mk (below_step (by repeat (first | (with_reducible first | exact HB.out | apply below_alloc | apply pw_below_drewN | apply below_drew1) | exact HB.out)) hb); clear HB; have HO103 := n0_; have HB := n1_; clear n0_ n1_; clear hb ho5))
   go_loopg [4] k (fun kq v4 w' => ∃ (x3_1 : List Bool) (x4_1 : Int), v4 = .int .i64 x4_1 ∧ Aside0 (laws_toBoolS.l0 kq l0 x3_1 x4_1 = some r) ∧ Aside0 (kq ≤ k) ∧ Aside0 (Kd.R Kd.bool 4 w' w.heap.size (fun _ => True) v102 x3_1) ∧ Aside0 (Below w.heap.size w w'))
   case atStart => exact ⟨(y101), (0), (by first | rfl | (simp; done) | (simp [*]; done) | (simp [wrap64]; done)), H', ⟨Nat.le_refl _⟩, ⟨by (with_reducible repeat (first | apply Kd.R_alloc | apply Kd.R_drewN | apply Kd.R_drew)); exact HO103.out⟩, ⟨by repeat (first | (with_reducible first | exact HB.out | apply below_alloc | apply pw_below_drewN | apply below_drew1) | exact HB.out)⟩⟩
   case round =>
    clear H'
    try clear c2
    try clear c2b0
    try clear c2b1
    try clear p2
    try clear c3
    try clear c3b0
    try clear c3b1
    obtain ⟨x3_1, x4_1, rfl, HA, HK1, HO_3, HB⟩ := hrel
    cases gk with
    | zero => exact absurd HA.out (by simp [laws_toBoolS.l0])
    | succ k1 =>
     have H := HA.out
     clear HA
     simp only [laws_toBoolS.l0] at H
     by_cases c6 : x4_1 < (l0.length : Int)
     ·rw [if_pos c6] at H
      have c6b0 : decide (x4_1 < (l0.length : Int)) = true := decide_eq_true c6
      clear c6
      by_cases c7 : 0 ≤ x4_1
      ·rw [if_pos c7] at H
       have c7b0 : decide (0 ≤ x4_1) = true := decide_eq_true c7
       clear c7
       by_cases c8 : x4_1 < (x3_1.length : Int)
       ·rw [if_pos c8] at H
        have c8b0 : decide (x4_1 < (x3_1.length : Int)) = true := decide_eq_true c8
        clear c8
        obtain ⟨y105, hy105⟩ : ∃ y_ : List Bool, y_ = (x3_1.set (x4_1 : Int).toNat (rdOf false l0 x4_1)) := ⟨_, rfl⟩
        replace H : (laws_toBoolS.l0 k1 l0 y105 (wrap64 (x4_1 + 1))) = some r := by first | (rw [hy105]; with_reducible exact H) | (have H2_ := (Option.bind_some _ _).symm.trans H; rw [hy105]; with_reducible exact H2_) | (have H2_ := (Option.bind_some _ _).symm.trans H; with_reducible exact H2_) | with_reducible exact H | (rw [hy105]; exact H) | exact H
        have Ny105 := Aside0.mk hy105
        clear hy105
        have H' := Aside0.mk H
        clear H
        have p104 : 0 ≤ (x4_1 : Int) := of_decide_eq_true (by first | (with_reducible assumption) | assumption)
        have q104 : x4_1 < (l0.length : Int) := of_decide_eq_true (by first | (with_reducible assumption) | assumption)
        obtain ⟨ad104, e104, hx104_0⟩ := Kd.at_bool HR0.out x4_1 p104 q104
        cases e104
        replace hx104_0 := (HB.out.cell (World.block_lt_of_cell? w _ hx104_0)).trans hx104_0
        replace p104 := eq_true p104
        replace q104 := eq_true q104
        have p9 : 0 ≤ (x4_1 : Int) := of_decide_eq_true (by first | (with_reducible assumption) | assumption)
        have q9 : (x4_1 : Int) < ((x3_1.length : Int) : Int) := of_decide_eq_true (by first | (with_reducible assumption) | assumption)
        obtain ⟨go9, co9, eo9, gb9, gl9, cl9, HG9⟩ := Kd.R_form HO_3.out (by omega)
        (first | cases eo9 | (injection eo9 with ea_ en_ ec_; (first | subst ea_ | (injection ea_ with ea_; subst ea_)); subst ec_; clear en_))
        have GB9 := Aside0.mk gb9
        have GG9 := Aside0.mk HG9
        clear gb9 gl9 HG9
        obtain ⟨hx9_0, hf9_0⟩ := Kd.R_celln false HO_3.out (x4_1 : Int) p9 q9
        replace p9 := eq_true p9
        replace q9 := eq_true q9
        have HP10 := Kd.R_putg HO_3.out (x4_1 : Int) (rdOf false l0 x4_1)
        go_wp2_with (first | ((with_reducible refine gate_store (t := 4) (p := 20) rfl ?_); refine store_event (t := 4) (p := 20) (v := ?vo_w11) (w1 := (wr.setCell ⟨go9, (x4_1 : Int).toNat, none⟩ (.bool (rdOf false l0 x4_1)))) ?hg ?ho ?hn ?hr ?_; (case ho => rfl); (case hg => rfl); (case hn => rfl); (case hr => first | (go_simp; done) | (go_simp; rfl)); intro w11 hw; have hg : wr.grownBy w11 (some go9) := (by rw [hw]; exact HP10.2); have hp_ : Kd.R Kd.bool 4 w11 w.heap.size (fun _ => True) (.slice (some ⟨go9, 0, none⟩) x3_1.length co9) y105 := (by rw [hw, Ny105.out]; exact HP10.1); clear HP10; have n0_ := Aside0.mk (hp_); have n1_ := Aside0.mk ((by rw [hw]; exact below_set (HB.out) GB9.out : Below w.heap.size w w11)); clear HO_3; clear HB; have HO_3 := n0_; have HB := n1_; clear n0_ n1_; clear hg hw hp_))
        go_roundg k1
        case measure => have := HK1.out; omega
        case rel => exact ⟨(y105), (wrap64 (x4_1 + 1)), (by first | rfl | (simp; done) | (simp [*]; done) | (simp [wrap64]; done)), H', ⟨by have := HK1.out; omega⟩, ⟨by (with_reducible repeat (first | apply Kd.R_alloc | apply Kd.R_drewN | apply Kd.R_drew)); exact HO_3.out⟩, ⟨by repeat (first | (with_reducible first | exact HB.out | apply below_alloc | apply pw_below_drewN | apply below_drew1) | exact HB.out)⟩⟩
       ·rw [if_neg c8] at H
        exact absurd H (by simp)
      ·rw [if_neg c7] at H
       exact absurd H (by simp)
     ·rw [if_neg c6] at H
      have c6b0 : decide (x4_1 < (l0.length : Int)) = false := decide_eq_false c6
      clear c6
      obtain rfl := Option.some.inj H
      simp only [Option.some.injEq, Prod.mk.injEq] at H
      obtain ⟨rfl⟩ := H
      go_wp2
      go_ret
      exact ⟨_, by first | rfl | (simp [errW_none, errW_some] <;> rfl) | (simp [*, errW_none, errW_some] <;> rfl), by (with_reducible repeat (first | apply Kd.R_alloc | apply Kd.R_drewN | apply Kd.R_drew)); exact HO_3.out, by repeat (first | (with_reducible first | exact HB.out | apply below_alloc | apply pw_below_drewN | apply below_drew1) | exact HB.out)⟩
  ·rw [if_neg c3] at H
   exact absurd H (by simp)
 ·rw [if_neg c2] at H
  exact absurd H (by simp)
/-! ### laws_toRelation: function 8 -/
def laws_toRelation.f (k : Nat) (a0_0 : Int) (a0_1 : Int) (l0_2 : List Bool) (l0_3 : List (List Int)) : Option (Int × Int × List Bool × (List (List Int))) := (laws_toBoolS.f k l0_2).bind fun t109 => ((laws_toInt64SS.f l0_3).bind fun t112 => (some (a0_0, a0_1, t109, t112)))
theorem laws_toRelation.mono : ∀ a0 a1 a2 a3 k, LeO (laws_toRelation.f k a0 a1 a2 a3) (laws_toRelation.f (k + 1) a0 a1 a2 a3) := by
 intro a0 a1 a2 a3 k
 unfold laws_toRelation.f
 repeat' first
   | (with_reducible exact laws_toBoolS.mono _ _)
   | (with_reducible exact LeO.refl _)
   | (with_reducible exact LeO.none _)
   | (with_reducible refine LeO.ite ?_ ?_)
   | (with_reducible refine LeO.bind ?_ (fun _ => ?_))
   | exact laws_toBoolS.mono _ _
   | exact LeO.none _
   | refine LeO.ite ?_ ?_
   | refine LeO.bind ?_ (fun _ => ?_)
set_option maxHeartbeats 8000000 in
set_option maxRecDepth 100000 in
theorem laws_toRelation.calls (k : Nat) (a0_0 : Int) (a0_1 : Int) (A0_2 : Option Addr) (c0_2 : Nat) (l0_2 : List Bool) (A0_3 : Option Addr) (c0_3 : Nat) (l0_3 : List (List Int)) (r1 : Int) (r2 : Int) (r3 : List Bool) (r4 : List (List Int)) (w : World) (hr0_2 : Kd.C Kd.bool w A0_2 l0_2.length l0_2) (hc0_2 : l0_2.length ≤ c0_2) (hr0_3 : Kd.C (Kd.slice 2 (Kd.int .i64)) w A0_3 l0_3.length l0_3) (hc0_3 : l0_3.length ≤ c0_3) (h : laws_toRelation.f k a0_0 a0_1 l0_2 l0_3 = some (r1, r2, r3, r4)) :
  Calls Tryd.prog 8 #[.agg #[.int .i64 a0_0, .int .i64 a0_1, .slice A0_2 l0_2.length c0_2, .slice A0_3 l0_3.length c0_3]] w fun e w' => ∃ v2_ v3_ : Value, e = .returned (.agg #[.int .i64 r1, .int .i64 r2, v2_, v3_]) ∧ Kd.R Kd.bool 4 w' w.heap.size (fun _ => True) v2_ r3 ∧ Kd.S (Kd.slice 2 (Kd.int .i64)) 75 w' w.heap.size (fun _ => True) v3_ r4 ∧ Below w.heap.size w w' := by
 have hu25 := Tryd.underlying25
 have hu27 := Tryd.underlying27
 have HR0_2 := Aside0.mk hr0_2
 have HC0_2 := Aside0.mk hc0_2
 clear hr0_2 hc0_2
 have HR0_3 := Aside0.mk hr0_3
 have HC0_3 := Aside0.mk hc0_3
 clear hr0_3 hc0_3
 have HB := Aside0.mk (Below.refl w.heap.size w)
 have H : ((laws_toBoolS.f k l0_2).bind fun t109 => ((laws_toInt64SS.f l0_3).bind fun t112 => (some (a0_0, a0_1, t109, t112)))) = some (r1, r2, r3, r4) := h
 clear h
 replace H := Option.bind_eq_some_iff.mp H
 obtain ⟨t109, A20, H⟩ := H
 replace H : ((laws_toInt64SS.f l0_3).bind fun t112 => (some (a0_0, a0_1, t109, t112))) = some (r1, r2, r3, r4) := H
 have A2 := Aside0.mk A20
 clear A20
 replace H := Option.bind_eq_some_iff.mp H
 obtain ⟨t112, A30, H⟩ := H
 replace H : (some (a0_0, a0_1, t109, t112)) = some (r1, r2, r3, r4) := H
 have A3 := Aside0.mk A30
 clear A30
 simp only [Option.some.injEq, Prod.mk.injEq] at H
 obtain ⟨rfl, rfl, rfl, rfl⟩ := H
 go_enter Tryd.func8, Tryd.ntmps8
 go_wp2_with (first | ((with_reducible refine gate_dst (N := 1) rfl ?_); refine box_event ?hg (N := 1) ?hd (cs := #[.int .i64 a0_0, .int .i64 a0_1, .slice A0_2 l0_2.length c0_2, .slice A0_3 l0_3.length c0_3]) (t := 25) ?hr ?_; (case hd => rfl); (case hg => rfl); (case hr => first | (go_simp; done) | (go_simp; rfl)); intro gb106 hg w4 hbox hb; have n0_ := Aside0.mk (below_step (by repeat (first | (with_reducible first | exact HB.out | apply below_alloc | apply pw_below_drewN | apply below_drew1) | exact HB.out)) hb); have n1_ := Aside0.mk (hbox); have n2_ := Aside0.mk ((by rw [hg]; exact (below_size (by repeat (first | (with_reducible first | exact HB.out | apply below_alloc | apply pw_below_drewN | apply below_drew1) | exact HB.out))) : w.heap.size ≤ gb106)); have n3_ := Aside0.mk ((by rw [hg]; exact (below_size (by repeat (first | (with_reducible first | exact HB.out | apply below_alloc | apply pw_below_drewN | apply below_drew1) | exact HB.out))) : w.heap.size ≤ gb106)); clear HB; have HB := n0_; have BK106 := n1_; have GW106 := n2_; have GE106 := n3_; clear n0_ n1_ n2_ n3_; clear hb hbox hg) | ((with_reducible refine gate_dst (N := 2) rfl ?_); refine box_event ?hg (N := 2) ?hd (cs := #[.int .i64 0, .int .i64 0, .slice none 0 0, .slice none 0 0]) (t := 27) ?hr ?_; (case hd => rfl); (case hg => rfl); (case hr => first | (go_simp; done) | (go_simp; rfl)); intro gb107 hg w5 hbox hb; have n0_ := Aside0.mk (blk_below (g := gb106) (o := .cells #[.int .i64 a0_0, .int .i64 a0_1, .slice A0_2 l0_2.length c0_2, .slice A0_3 l0_3.length c0_3] 25 (0, 0)) (by (with_reducible repeat (first | refine blk_drewN ?_ _ | refine blk_drew ?_ | refine blk_alloc ?_ _)); exact BK106.out) hb); have n1_ := Aside0.mk (below_step (by repeat (first | (with_reducible first | exact HB.out | apply below_alloc | apply pw_below_drewN | apply below_drew1 | refine below_set ?_ GE106.out) | exact HB.out)) hb); have n2_ := Aside0.mk (hbox); have n3_ := Aside0.mk ((by rw [hg]; exact (below_size (by repeat (first | (with_reducible first | exact HB.out | apply below_alloc | apply pw_below_drewN | apply below_drew1 | refine below_set ?_ GE106.out) | exact HB.out))) : w.heap.size ≤ gb107)); have n4_ := Aside0.mk ((by rw [hg]; exact (below_size (by repeat (first | (with_reducible first | exact HB.out | apply below_alloc | apply pw_below_drewN | apply below_drew1 | refine below_set ?_ GE106.out) | exact HB.out))) : w.heap.size ≤ gb107)); have n5_ := Aside0.mk ((by rw [hg]; exact Nat.ne_of_lt (blk_lt (g := gb106) (o := .cells #[.int .i64 a0_0, .int .i64 a0_1, .slice A0_2 l0_2.length c0_2, .slice A0_3 l0_3.length c0_3] 25 (0, 0)) (by (with_reducible repeat (first | refine blk_drewN ?_ _ | refine blk_drew ?_ | refine blk_alloc ?_ _)); exact BK106.out)) : gb106 ≠ gb107)); have n6_ := Aside0.mk ((by rw [hg]; exact Nat.ne_of_gt (blk_lt (g := gb106) (o := .cells #[.int .i64 a0_0, .int .i64 a0_1, .slice A0_2 l0_2.length c0_2, .slice A0_3 l0_3.length c0_3] 25 (0, 0)) (by (with_reducible repeat (first | refine blk_drewN ?_ _ | refine blk_drew ?_ | refine blk_alloc ?_ _)); exact BK106.out)) : gb107 ≠ gb106)); clear BK106; clear HB; have BK106 := n0_; have HB := n1_; have BK107 := n2_; have GW107 := n3_; have GE107 := n4_; have NB106_107 := n5_; have NB107_106 := n6_; clear n0_ n1_ n2_ n3_ n4_ n5_ n6_; clear hb hbox hg) | ((with_reducible refine gate_dst (N := 3) rfl ?_); refine box_event ?hg (N := 3) ?hd (cs := #[.int .i64 0, .int .i64 0, .slice none 0 0, .slice none 0 0]) (t := 27) ?hr ?_; (case hd => rfl); (case hg => rfl); (case hr => first | (go_simp; done) | (go_simp; rfl)); intro gb108 hg w6 hbox hb; have n0_ := Aside0.mk (blk_below (g := gb106) (o := .cells #[.int .i64 a0_0, .int .i64 a0_1, .slice A0_2 l0_2.length c0_2, .slice A0_3 l0_3.length c0_3] 25 (0, 0)) (by (with_reducible repeat (first | refine blk_drewN ?_ _ | refine blk_drew ?_ | refine blk_alloc ?_ _)); exact BK106.out) hb); have n1_ := Aside0.mk (blk_below (g := gb107) (o := .cells #[.int .i64 0, .int .i64 0, .slice none 0 0, .slice none 0 0] 27 (0, 0)) (by (with_reducible repeat (first | refine blk_drewN ?_ _ | refine blk_drew ?_ | refine blk_alloc ?_ _)); exact BK107.out) hb); have n2_ := Aside0.mk (below_step (by repeat (first | (with_reducible first | exact HB.out | apply below_alloc | apply pw_below_drewN | apply below_drew1 | refine below_set ?_ GE106.out | refine below_set ?_ GE107.out) | exact HB.out)) hb); have n3_ := Aside0.mk (hbox); have n4_ := Aside0.mk ((by rw [hg]; exact (below_size (by repeat (first | (with_reducible first | exact HB.out | apply below_alloc | apply pw_below_drewN | apply below_drew1 | refine below_set ?_ GE106.out | refine below_set ?_ GE107.out) | exact HB.out))) : w.heap.size ≤ gb108)); have n5_ := Aside0.mk ((by rw [hg]; exact (below_size (by repeat (first | (with_reducible first | exact HB.out | apply below_alloc | apply pw_below_drewN | apply below_drew1 | refine below_set ?_ GE106.out | refine below_set ?_ GE107.out) | exact HB.out))) : w.heap.size ≤ gb108)); have n6_ := Aside0.mk ((by rw [hg]; exact Nat.ne_of_lt (blk_lt (g := gb106) (o := .cells #[.int .i64 a0_0, .int .i64 a0_1, .slice A0_2 l0_2.length c0_2, .slice A0_3 l0_3.length c0_3] 25 (0, 0)) (by (with_reducible repeat (first | refine blk_drewN ?_ _ | refine blk_drew ?_ | refine blk_alloc ?_ _)); exact BK106.out)) : gb106 ≠ gb108)); have n7_ := Aside0.mk ((by rw [hg]; exact Nat.ne_of_gt (blk_lt (g := gb106) (o := .cells #[.int .i64 a0_0, .int .i64 a0_1, .slice A0_2 l0_2.length c0_2, .slice A0_3 l0_3.length c0_3] 25 (0, 0)) (by (with_reducible repeat (first | refine blk_drewN ?_ _ | refine blk_drew ?_ | refine blk_alloc ?_ _)); exact BK106.out)) : gb108 ≠ gb106)); have n8_ := Aside0.mk ((by rw [hg]; exact Nat.ne_of_lt (blk_lt (g := gb107) (o := .cells #[.int .i64 0, .int .i64 0, .slice none 0 0, .slice none 0 0] 27 (0, 0)) (by (with_reducible repeat (first | refine blk_drewN ?_ _ | refine blk_drew ?_ | refine blk_alloc ?_ _)); exact BK107.out)) : gb107 ≠ gb108)); have n9_ := Aside0.mk ((by rw [hg]; exact Nat.ne_of_gt (blk_lt (g := gb107) (o := .cells #[.int .i64 0, .int .i64 0, .slice none 0 0, .slice none 0 0] 27 (0, 0)) (by (with_reducible repeat (first | refine blk_drewN ?_ _ | refine blk_drew ?_ | refine blk_alloc ?_ _)); exact BK107.out)) : gb108 ≠ gb107)); clear BK106; clear BK107; clear HB; have BK106 := n0_; have BK107 := n1_; have HB := n2_; have BK108 := n3_; have GW108 := n4_; have GE108 := n5_; have NB106_108 := n6_; have NB108_106 := n7_; have NB107_108 := n8_; have NB108_107 := n9_; clear n0_ n1_ n2_ n3_ n4_ n5_ n6_ n7_ n8_ n9_; clear hb hbox hg; have hnb7 := NB106_107.out; have hnc7 := NB107_106.out; have hnb8 := NB106_108.out; have hnc8 := NB108_106.out; have hcz9_0 : w6.cell? ⟨gb106, 0, none⟩ = some (.int .i64 a0_0) := (blk_cell BK106.out 0).trans rfl; have hcz9_1 : w6.cell? ⟨gb106, 1, none⟩ = some (.int .i64 a0_1) := (blk_cell BK106.out 1).trans rfl; have hcz9_2 : w6.cell? ⟨gb106, 2, none⟩ = some (.slice A0_2 l0_2.length c0_2) := (blk_cell BK106.out 2).trans rfl; have hcz9_3 : w6.cell? ⟨gb106, 3, none⟩ = some (.slice A0_3 l0_3.length c0_3) := (blk_cell BK106.out 3).trans rfl; have hfz9_0 := blk_frozen BK106.out 0; have hfz9_1 := blk_frozen BK106.out 1; have hfz9_2 := blk_frozen BK106.out 2; have hfz9_3 := blk_frozen BK106.out 3; have hnb10 := NB108_107.out; have hnc10 := NB107_108.out; have hcz11_0 : w6.cell? ⟨gb108, 0, none⟩ = some (.int .i64 0) := (blk_cell BK108.out 0).trans rfl; have hcz11_1 : w6.cell? ⟨gb108, 1, none⟩ = some (.int .i64 0) := (blk_cell BK108.out 1).trans rfl; have hcz11_2 : w6.cell? ⟨gb108, 2, none⟩ = some (.slice none 0 0) := (blk_cell BK108.out 2).trans rfl; have hcz11_3 : w6.cell? ⟨gb108, 3, none⟩ = some (.slice none 0 0) := (blk_cell BK108.out 3).trans rfl; have hfz11_0 := blk_frozen BK108.out 0; have hfz11_1 := blk_frozen BK108.out 1; have hfz11_2 := blk_frozen BK108.out 2; have hfz11_3 := blk_frozen BK108.out 3) | ((with_reducible refine gate_callee (f := 27) rfl ?_); refine goesL_ (some 12) rfl rfl Tryd.func27 (by kernel_rfl) rfl #[.slice A0_2 l0_2.length c0_2] rfl (by (try simp only [List.map_toArray, List.map_cons, List.map_nil]); first | done | rfl | (simp only [List.length_drop, List.length_take]; rfl)) ?_; (with_reducible refine (laws_toBoolS.calls k _ _ l0_2 t109 _ ?side1 ?side2 A2.out).mono ?_); (case side1 => exact Kd.C_below HR0_2.out (by repeat (first | (with_reducible first | exact HB.out | apply below_alloc | apply pw_below_drewN | apply below_drew1 | refine below_set ?_ GE106.out | refine below_set ?_ GE107.out | refine below_set ?_ GE108.out) | exact HB.out))); (case side2 => exact HC0_2.out); rintro e w12 ⟨v110, rfl, ho0, hb⟩; refine ⟨_, rfl, ?_⟩; have n0_ := Aside0.mk (Kd.R_lower ho0 (below_size (by repeat (first | (with_reducible first | exact HB.out | apply below_alloc | apply pw_below_drewN | apply below_drew1 | refine below_set ?_ GE106.out | refine below_set ?_ GE107.out | refine below_set ?_ GE108.out) | exact HB.out)))); have n1_ := Aside0.mk (blk_below (g := gb106) (o := .cells #[.int .i64 a0_0, .int .i64 a0_1, .slice A0_2 l0_2.length c0_2, .slice A0_3 l0_3.length c0_3] 25 (0, 0)) (by (with_reducible repeat (first | refine blk_drewN ?_ _ | refine blk_drew ?_ | refine blk_alloc ?_ _)); refine blk_far ?_ NB106_108.out _; (with_reducible repeat (first | refine blk_drewN ?_ _ | refine blk_drew ?_ | refine blk_alloc ?_ _)); refine blk_far ?_ NB106_108.out _; (with_reducible repeat (first | refine blk_drewN ?_ _ | refine blk_drew ?_ | refine blk_alloc ?_ _)); exact BK106.out) hb); have n2_ := Aside0.mk (blk_below (g := gb107) (o := .cells #[.int .i64 0, .int .i64 0, .slice none 0 0, .slice none 0 0] 27 (0, 0)) (by (with_reducible repeat (first | refine blk_drewN ?_ _ | refine blk_drew ?_ | refine blk_alloc ?_ _)); refine blk_far ?_ NB107_108.out _; (with_reducible repeat (first | refine blk_drewN ?_ _ | refine blk_drew ?_ | refine blk_alloc ?_ _)); refine blk_far ?_ NB107_108.out _; (with_reducible repeat (first | refine blk_drewN ?_ _ | refine blk_drew ?_ | refine blk_alloc ?_ _)); exact BK107.out) hb); have n3_ := Aside0.mk (blk_below (g := gb108) (o := .cells #[.int .i64 a0_0, .int .i64 a0_1, .slice none 0 0, .slice none 0 0] 27 (0, 0)) (by (with_reducible repeat (first | refine blk_drewN ?_ _ | refine blk_drew ?_ | refine blk_alloc ?_ _)); refine blk_put (cs := #[.int .i64 a0_0, .int .i64 0, .slice none 0 0, .slice none 0 0]) ?_ 1 _ rfl; (with_reducible repeat (first | refine blk_drewN ?_ _ | refine blk_drew ?_ | refine blk_alloc ?_ _)); refine blk_put (cs := #[.int .i64 0, .int .i64 0, .slice none 0 0, .slice none 0 0]) ?_ 0 _ rfl; (with_reducible repeat (first | refine blk_drewN ?_ _ | refine blk_drew ?_ | refine blk_alloc ?_ _)); exact BK108.out) hb); have n4_ := Aside0.mk (below_step (by repeat (first | (with_reducible first | exact HB.out | apply below_alloc | apply pw_below_drewN | apply below_drew1 | refine below_set ?_ GE106.out | refine below_set ?_ GE107.out | refine below_set ?_ GE108.out) | exact HB.out)) hb); clear BK106; clear BK107; clear BK108; clear HB; have HO111 := n0_; have BK106 := n1_; have BK107 := n2_; have BK108 := n3_; have HB := n4_; clear n0_ n1_ n2_ n3_ n4_; (try clear hb); (try clear hb2); (try clear hk); (try clear hi); (try clear ho0); obtain ⟨Ao13, co13, eo13⟩ := Kd.R_slice HO111.out; subst eo13; have hcz14_0 : w12.cell? ⟨gb108, 0, none⟩ = some (.int .i64 a0_0) := (blk_cell BK108.out 0).trans rfl; have hcz14_1 : w12.cell? ⟨gb108, 1, none⟩ = some (.int .i64 a0_1) := (blk_cell BK108.out 1).trans rfl; have hcz14_2 : w12.cell? ⟨gb108, 2, none⟩ = some (.slice none 0 0) := (blk_cell BK108.out 2).trans rfl; have hcz14_3 : w12.cell? ⟨gb108, 3, none⟩ = some (.slice none 0 0) := (blk_cell BK108.out 3).trans rfl; have hfz14_0 := blk_frozen BK108.out 0; have hfz14_1 := blk_frozen BK108.out 1; have hfz14_2 := blk_frozen BK108.out 2; have hfz14_3 := blk_frozen BK108.out 3; have hcz15_0 : w12.cell? ⟨gb106, 0, none⟩ = some (.int .i64 a0_0) := (blk_cell BK106.out 0).trans rfl; have hcz15_1 : w12.cell? ⟨gb106, 1, none⟩ = some (.int .i64 a0_1) := (blk_cell BK106.out 1).trans rfl; have hcz15_2 : w12.cell? ⟨gb106, 2, none⟩ = some (.slice A0_2 l0_2.length c0_2) := (blk_cell BK106.out 2).trans rfl; have hcz15_3 : w12.cell? ⟨gb106, 3, none⟩ = some (.slice A0_3 l0_3.length c0_3) := (blk_cell BK106.out 3).trans rfl; have hfz15_0 := blk_frozen BK106.out 0; have hfz15_1 := blk_frozen BK106.out 1; have hfz15_2 := blk_frozen BK106.out 2; have hfz15_3 := blk_frozen BK106.out 3) | ((with_reducible refine gate_callee (f := 28) rfl ?_); refine goesL_ (some 16) rfl rfl Tryd.func28 (by kernel_rfl) rfl #[.slice A0_3 l0_3.length c0_3] rfl (by (try simp only [List.map_toArray, List.map_cons, List.map_nil]); first | done | rfl | (simp only [List.length_drop, List.length_take]; rfl)) ?_; (with_reducible refine (laws_toInt64SS.calls _ _ l0_3 t112 _ ?side1 ?side2 A3.out).mono ?_); (case side1 => exact Kd.C_below HR0_3.out (by repeat (first | (with_reducible first | exact HB.out | apply below_alloc | apply pw_below_drewN | apply below_drew1 | refine below_set ?_ GE106.out | refine below_set ?_ GE107.out | refine below_set ?_ GE108.out) | exact HB.out))); (case side2 => exact HC0_3.out); rintro e w16 ⟨v113, rfl, ho0, hb⟩; refine ⟨_, rfl, ?_⟩; have n0_ := Aside0.mk (Kd.R_below (by (with_reducible repeat (first | apply Kd.R_alloc | apply Kd.R_drewN | apply Kd.R_drew)); exact (Kd.R_mono (Kd.R_far (p := ⟨gb108, 2, none⟩) (Kd.R_types HO111.out BK108.out (by decide)) (fun _ hk => hk.2) (.slice Ao13 t109.length co13)) (fun _ h_ => h_.1))) hb); have n1_ := Aside0.mk (Kd.S_lower ho0 (below_size (by repeat (first | (with_reducible first | exact HB.out | apply below_alloc | apply pw_below_drewN | apply below_drew1 | refine below_set ?_ GE106.out | refine below_set ?_ GE107.out | refine below_set ?_ GE108.out) | exact HB.out)))); have n2_ := Aside0.mk (blk_below (g := gb106) (o := .cells #[.int .i64 a0_0, .int .i64 a0_1, .slice A0_2 l0_2.length c0_2, .slice A0_3 l0_3.length c0_3] 25 (0, 0)) (by (with_reducible repeat (first | refine blk_drewN ?_ _ | refine blk_drew ?_ | refine blk_alloc ?_ _)); refine blk_far ?_ NB106_108.out _; (with_reducible repeat (first | refine blk_drewN ?_ _ | refine blk_drew ?_ | refine blk_alloc ?_ _)); exact BK106.out) hb); have n3_ := Aside0.mk (blk_below (g := gb107) (o := .cells #[.int .i64 0, .int .i64 0, .slice none 0 0, .slice none 0 0] 27 (0, 0)) (by (with_reducible repeat (first | refine blk_drewN ?_ _ | refine blk_drew ?_ | refine blk_alloc ?_ _)); refine blk_far ?_ NB107_108.out _; (with_reducible repeat (first | refine blk_drewN ?_ _ | refine blk_drew ?_ | refine blk_alloc ?_ _)); exact BK107.out) hb); have n4_ := Aside0.mk (blk_below (g := gb108) (o := .cells #[.int .i64 a0_0, .int .i64 a0_1, .slice Ao13 t109.length co13, .slice none 0 0] 27 (0, 0)) (by (with_reducible repeat (first | refine blk_drewN ?_ _ | refine blk_drew ?_ | refine blk_alloc ?_ _)); refine blk_put (cs := #[.int .i64 a0_0, .int .i64 a0_1, .slice none 0 0, .slice none 0 0]) ?_ 2 _ rfl; (with_reducible repeat (first | refine blk_drewN ?_ _ | refine blk_drew ?_ | refine blk_alloc ?_ _)); exact BK108.out) hb); have n5_ := Aside0.mk (below_step (by repeat (first | (with_reducible first | exact HB.out | apply below_alloc | apply pw_below_drewN | apply below_drew1 | refine below_set ?_ GE106.out | refine below_set ?_ GE107.out | refine below_set ?_ GE108.out) | exact HB.out)) hb); clear HO111; clear BK106; clear BK107; clear BK108; clear HB; have HO111 := n0_; have HO114 := n1_; have BK106 := n2_; have BK107 := n3_; have BK108 := n4_; have HB := n5_; clear n0_ n1_ n2_ n3_ n4_ n5_; (try clear hb); (try clear hb2); (try clear hk); (try clear hi); (try clear ho0); obtain ⟨Ao17, co17, eo17⟩ := Kd.S_slice HO114.out; subst eo17; have hcz18_0 : w16.cell? ⟨gb108, 0, none⟩ = some (.int .i64 a0_0) := (blk_cell BK108.out 0).trans rfl; have hcz18_1 : w16.cell? ⟨gb108, 1, none⟩ = some (.int .i64 a0_1) := (blk_cell BK108.out 1).trans rfl; have hcz18_2 : w16.cell? ⟨gb108, 2, none⟩ = some (.slice Ao13 t109.length co13) := (blk_cell BK108.out 2).trans rfl; have hcz18_3 : w16.cell? ⟨gb108, 3, none⟩ = some (.slice none 0 0) := (blk_cell BK108.out 3).trans rfl; have hfz18_0 := blk_frozen BK108.out 0; have hfz18_1 := blk_frozen BK108.out 1; have hfz18_2 := blk_frozen BK108.out 2; have hfz18_3 := blk_frozen BK108.out 3; have hcz19_0 : w16.cell? ⟨gb107, 0, none⟩ = some (.int .i64 0) := (blk_cell BK107.out 0).trans rfl; have hcz19_1 : w16.cell? ⟨gb107, 1, none⟩ = some (.int .i64 0) := (blk_cell BK107.out 1).trans rfl; have hcz19_2 : w16.cell? ⟨gb107, 2, none⟩ = some (.slice none 0 0) := (blk_cell BK107.out 2).trans rfl; have hcz19_3 : w16.cell? ⟨gb107, 3, none⟩ = some (.slice none 0 0) := (blk_cell BK107.out 3).trans rfl; have hfz19_0 := blk_frozen BK107.out 0; have hfz19_1 := blk_frozen BK107.out 1; have hfz19_2 := blk_frozen BK107.out 2; have hfz19_3 := blk_frozen BK107.out 3))
 refine bodyPost_ret (results_cell_row rfl _ _ gb107 27 #[.int .i64 a0_0, .int .i64 a0_1, .slice Ao13 t109.length co13, .slice Ao17 t112.length co17] (0, 0) _ rfl (by (with_reducible repeat (first | refine blk_drewN ?_ _ | refine blk_drew ?_ | refine blk_alloc ?_ _)); refine blk_put (cs := #[.int .i64 a0_0, .int .i64 a0_1, .slice Ao13 t109.length co13, .slice none 0 0]) ?_ 3 _ rfl; (with_reducible repeat (first | refine blk_drewN ?_ _ | refine blk_drew ?_ | refine blk_alloc ?_ _)); refine blk_put (cs := #[.int .i64 a0_0, .int .i64 a0_1, .slice none 0 0, .slice none 0 0]) ?_ 2 _ rfl; (with_reducible repeat (first | refine blk_drewN ?_ _ | refine blk_drew ?_ | refine blk_alloc ?_ _)); refine blk_put (cs := #[.int .i64 a0_0, .int .i64 0, .slice none 0 0, .slice none 0 0]) ?_ 1 _ rfl; (with_reducible repeat (first | refine blk_drewN ?_ _ | refine blk_drew ?_ | refine blk_alloc ?_ _)); refine blk_put (cs := #[.int .i64 0, .int .i64 0, .slice none 0 0, .slice none 0 0]) ?_ 0 _ rfl; (with_reducible repeat (first | refine blk_drewN ?_ _ | refine blk_drew ?_ | refine blk_alloc ?_ _)); refine blk_far ?_ NB107_108.out _; (with_reducible repeat (first | refine blk_drewN ?_ _ | refine blk_drew ?_ | refine blk_alloc ?_ _)); exact BK107.out) Tryd.underlying27 rfl (by kernel_rfl)) rfl ?_
 exact ⟨_, _, by first | rfl | (simp [errW_none, errW_some] <;> rfl) | (simp [*, errW_none, errW_some] <;> rfl), by (with_reducible repeat (first | apply Kd.R_alloc | apply Kd.R_drewN | apply Kd.R_drew)); exact Kd.R_mono (Kd.R_far (p := ⟨gb107, 3, none⟩) (Kd.R_far (p := ⟨gb107, 2, none⟩) (Kd.R_far (p := ⟨gb107, 1, none⟩) (Kd.R_far (p := ⟨gb107, 0, none⟩) (Kd.R_far (p := ⟨gb108, 3, none⟩) (Kd.R_types (Kd.R_types HO111.out BK108.out (by decide)) BK107.out (by decide)) (fun _ hk => hk.1.2) (.slice Ao17 t112.length co17)) (fun _ hk => hk.2) (.int .i64 a0_0)) (fun _ hk => hk.2) (.int .i64 a0_1)) (fun _ hk => hk.2) (.slice Ao13 t109.length co13)) (fun _ hk => hk.2) (.slice Ao17 t112.length co17)) (fun _ hk => trivial), by (with_reducible repeat (first | apply Kd.S_alloc | apply Kd.S_drewN | apply Kd.S_drew)); exact Kd.S_mono (Kd.S_far (p := ⟨gb107, 3, none⟩) (Kd.S_far (p := ⟨gb107, 2, none⟩) (Kd.S_far (p := ⟨gb107, 1, none⟩) (Kd.S_far (p := ⟨gb107, 0, none⟩) (Kd.S_far (p := ⟨gb108, 3, none⟩) (Kd.S_types (Kd.S_types HO114.out BK108.out (by decide)) BK107.out (by decide)) (fun _ hk => hk.1.2) (.slice Ao17 t112.length co17)) (fun _ hk => hk.2) (.int .i64 a0_0)) (fun _ hk => hk.2) (.int .i64 a0_1)) (fun _ hk => hk.2) (.slice Ao13 t109.length co13)) (fun _ hk => hk.2) (.slice Ao17 t112.length co17)) (fun _ hk => trivial), by repeat (first | (with_reducible first | exact HB.out | apply below_alloc | apply pw_below_drewN | apply below_drew1 | refine below_set ?_ GE106.out | refine below_set ?_ GE107.out | refine below_set ?_ GE108.out) | exact HB.out)⟩
/-! ### laws_szBoolS: function 22 -/
def laws_szBoolS.f (l0 : List Bool) (a1 : Int) : Option (Int) := if (wrap64 (a1 - (l0.length : Int))) < 0 then (some (-1)) else (some (wrap64 (a1 - (l0.length : Int))))
set_option maxHeartbeats 8000000 in
set_option maxRecDepth 100000 in
theorem laws_szBoolS.calls (A0 : Option Addr) (c0 : Nat) (l0 : List Bool) (a1 : Int) (r : Int) (w : World) (hr0 : Kd.C Kd.bool w A0 l0.length l0) (hc0 : l0.length ≤ c0) (h : laws_szBoolS.f l0 a1 = some r) :
  Calls Tryd.prog 22 #[.slice A0 l0.length c0, .int .i64 a1] w fun e w' => e = .returned (.int .i64 r) ∧ Drawn0 w w' := by
 have HR0 := Aside0.mk hr0
 have HC0 := Aside0.mk hc0
 clear hr0 hc0
 have H : (if (wrap64 (a1 - (l0.length : Int))) < 0 then (some (-1)) else (some (wrap64 (a1 - (l0.length : Int))))) = some r := h
 clear h
 by_cases c3 : (wrap64 (a1 - (l0.length : Int))) < 0
 ·rw [if_pos c3] at H
  have c3b0 : decide ((wrap64 (a1 - (l0.length : Int))) < 0) = true := decide_eq_true c3
  clear c3
  obtain rfl := Option.some.inj H
  simp only [Option.some.injEq, Prod.mk.injEq] at H
  obtain ⟨rfl⟩ := H
  go_enter Tryd.func22, Tryd.ntmps22
  go_wp2
  go_ret
  exact ⟨by first | rfl | (simp; done) | (simp [*]; done) | (simp [wrap64]; done), by repeat (first | exact Drawn0.refl _ | apply Drawn0.step)⟩
 ·rw [if_neg c3] at H
  have c3b0 : decide ((wrap64 (a1 - (l0.length : Int))) < 0) = false := decide_eq_false c3
  clear c3
  obtain rfl := Option.some.inj H
  simp only [Option.some.injEq, Prod.mk.injEq] at H
  obtain ⟨rfl⟩ := H
  go_enter Tryd.func22, Tryd.ntmps22
  go_wp2
  go_ret
  exact ⟨by first | rfl | (simp; done) | (simp [*]; done) | (simp [wrap64]; done), by repeat (first | exact Drawn0.refl _ | apply Drawn0.step)⟩
/-! ### laws_szInt64S: function 64 -/
def laws_szInt64S.f (l0 : List Int) (a1 : Int) : Option (Int) := if (wrap64 (a1 - (l0.length : Int))) < 0 then (some (-1)) else (some (wrap64 (a1 - (l0.length : Int))))
set_option maxHeartbeats 8000000 in
set_option maxRecDepth 100000 in
theorem laws_szInt64S.calls (A0 : Option Addr) (c0 : Nat) (l0 : List Int) (a1 : Int) (r : Int) (w : World) (hr0 : Kd.C (Kd.int .i64) w A0 l0.length l0) (hc0 : l0.length ≤ c0) (h : laws_szInt64S.f l0 a1 = some r) :
  Calls Tryd.prog 64 #[.slice A0 l0.length c0, .int .i64 a1] w fun e w' => e = .returned (.int .i64 r) ∧ Drawn0 w w' := by
 have HR0 := Aside0.mk hr0
 have HC0 := Aside0.mk hc0
 clear hr0 hc0
 have H : (if (wrap64 (a1 - (l0.length : Int))) < 0 then (some (-1)) else (some (wrap64 (a1 - (l0.length : Int))))) = some r := h
 clear h
 by_cases c3 : (wrap64 (a1 - (l0.length : Int))) < 0
 ·rw [if_pos c3] at H
  have c3b0 : decide ((wrap64 (a1 - (l0.length : Int))) < 0) = true := decide_eq_true c3
  clear c3
  obtain rfl := Option.some.inj H
  simp only [Option.some.injEq, Prod.mk.injEq] at H
  obtain ⟨rfl⟩ := H
  go_enter Tryd.func64, Tryd.ntmps64
  go_wp2
  go_ret
  exact ⟨by first | rfl | (simp; done) | (simp [*]; done) | (simp [wrap64]; done), by repeat (first | exact Drawn0.refl _ | apply Drawn0.step)⟩
 ·rw [if_neg c3] at H
  have c3b0 : decide ((wrap64 (a1 - (l0.length : Int))) < 0) = false := decide_eq_false c3
  clear c3
  obtain rfl := Option.some.inj H
  simp only [Option.some.injEq, Prod.mk.injEq] at H
  obtain ⟨rfl⟩ := H
  go_enter Tryd.func64, Tryd.ntmps64
  go_wp2
  go_ret
  exact ⟨by first | rfl | (simp; done) | (simp [*]; done) | (simp [wrap64]; done), by repeat (first | exact Drawn0.refl _ | apply Drawn0.step)⟩
/-! ### laws_szInt64SS: function 23 -/
def laws_szInt64SS.l0 : Nat → List (List Int) → Int → Int → Option (Int)
 | 0, _, _, _ => none
 | k + 1, x0, x1, x5 => if x5 < (x0.length : Int) then (if 0 ≤ x5 then ((laws_szInt64S.f (rd_L2 x0 x5) x1).bind fun t116 => (if t116 < 0 then (some (-1)) else (laws_szInt64SS.l0 k x0 t116 (wrap64 (x5 + 1))))) else (none)) else (some x1)
def laws_szInt64SS.f (k : Nat) (l0 : List (List Int)) (a1 : Int) : Option (Int) := if (wrap64 (a1 - (l0.length : Int))) < 0 then (some (-1)) else (laws_szInt64SS.l0 k l0 (wrap64 (a1 - (l0.length : Int))) 0)
theorem laws_szInt64SS.mono_l : ∀ k, (∀ y0 y1 y2, LeO (laws_szInt64SS.l0 k y0 y1 y2) (laws_szInt64SS.l0 (k + 1) y0 y1 y2))
 | 0 => fun _ _ _ r h => by simp [laws_szInt64SS.l0] at h
 | k + 1 => by
  have ih0 := laws_szInt64SS.mono_l k
  ·intro y0 y1 y2
   unfold laws_szInt64SS.l0
   repeat' first
   | (with_reducible exact ih0 _ _ _)
   | (with_reducible exact LeO.refl _)
   | (with_reducible exact LeO.none _)
   | (with_reducible refine LeO.ite ?_ ?_)
   | (with_reducible refine LeO.bind ?_ (fun _ => ?_))
   | exact ih0 _ _ _
   | exact LeO.none _
   | refine LeO.ite ?_ ?_
   | refine LeO.bind ?_ (fun _ => ?_)
theorem laws_szInt64SS.mono : ∀ a0 a1 k, LeO (laws_szInt64SS.f k a0 a1) (laws_szInt64SS.f (k + 1) a0 a1) := by
 intro a0 a1 k
 have ih0 := laws_szInt64SS.mono_l k
 unfold laws_szInt64SS.f
 repeat' first
   | (with_reducible exact ih0 _ _ _)
   | (with_reducible exact LeO.refl _)
   | (with_reducible exact LeO.none _)
   | (with_reducible refine LeO.ite ?_ ?_)
   | (with_reducible refine LeO.bind ?_ (fun _ => ?_))
   | exact ih0 _ _ _
   | exact LeO.none _
   | refine LeO.ite ?_ ?_
   | refine LeO.bind ?_ (fun _ => ?_)
set_option maxHeartbeats 8000000 in
set_option maxRecDepth 100000 in
theorem laws_szInt64SS.calls (k : Nat) (A0 : Option Addr) (c0 : Nat) (l0 : List (List Int)) (a1 : Int) (r : Int) (w : World) (hr0 : Kd.C (Kd.slice 2 (Kd.int .i64)) w A0 l0.length l0) (hc0 : l0.length ≤ c0) (h : laws_szInt64SS.f k l0 a1 = some r) :
  Calls Tryd.prog 23 #[.slice A0 l0.length c0, .int .i64 a1] w fun e w' => e = .returned (.int .i64 r) ∧ Drawn0 w w' := by
 have HR0 := Aside0.mk hr0
 have HC0 := Aside0.mk hc0
 clear hr0 hc0
 have H : (if (wrap64 (a1 - (l0.length : Int))) < 0 then (some (-1)) else (laws_szInt64SS.l0 k l0 (wrap64 (a1 - (l0.length : Int))) 0)) = some r := h
 clear h
 by_cases c3 : (wrap64 (a1 - (l0.length : Int))) < 0
 ·rw [if_pos c3] at H
  have c3b0 : decide ((wrap64 (a1 - (l0.length : Int))) < 0) = true := decide_eq_true c3
  clear c3
  obtain rfl := Option.some.inj H
  simp only [Option.some.injEq, Prod.mk.injEq] at H
  obtain ⟨rfl⟩ := H
  go_enter Tryd.func23, Tryd.ntmps23
  go_wp2
  go_ret
  exact ⟨by first | rfl | (simp; done) | (simp [*]; done) | (simp [wrap64]; done), by repeat (first | exact Drawn0.refl _ | apply Drawn0.step)⟩
 ·rw [if_neg c3] at H
  have c3b0 : decide ((wrap64 (a1 - (l0.length : Int))) < 0) = false := decide_eq_false c3
  clear c3
  have H' := Aside0.mk H
  clear H
  go_enter Tryd.func23, Tryd.ntmps23
  go_wp2
  go_loopg [1, 5] k (fun kq v1 v5 w' => ∃ (x1_1 : Int) (x5_1 : Int), v1 = .int .i64 x1_1 ∧ v5 = .int .i64 x5_1 ∧ Aside0 (laws_szInt64SS.l0 kq l0 x1_1 x5_1 = some r) ∧ Aside0 (kq ≤ k) ∧ Drawn0 w w')
  case atStart => exact ⟨(wrap64 (a1 - (l0.length : Int))), (0), (by first | rfl | (simp; done) | (simp [*]; done) | (simp [wrap64]; done)), (by first | rfl | (simp; done) | (simp [*]; done) | (simp [wrap64]; done)), H', ⟨Nat.le_refl _⟩, by repeat (first | exact Drawn0.refl _ | apply Drawn0.step)⟩
  case round =>
   clear H'
   try clear c2
   try clear p2
   try clear c3
   try clear c3b0
   obtain ⟨x1_1, x5_1, rfl, rfl, HA, HK1, ⟨m1, rfl⟩⟩ := hrel
   cases gk with
   | zero => exact absurd HA.out (by simp [laws_szInt64SS.l0])
   | succ k1 =>
    have H := HA.out
    clear HA
    simp only [laws_szInt64SS.l0] at H
    by_cases c4 : x5_1 < (l0.length : Int)
    ·rw [if_pos c4] at H
     have c4b0 : decide (x5_1 < (l0.length : Int)) = true := decide_eq_true c4
     clear c4
     by_cases c5 : 0 ≤ x5_1
     ·rw [if_pos c5] at H
      have c5b0 : decide (0 ≤ x5_1) = true := decide_eq_true c5
      clear c5
      replace H := Option.bind_eq_some_iff.mp H
      obtain ⟨t116, A60, H⟩ := H
      replace H : (if t116 < 0 then (some (-1)) else (laws_szInt64SS.l0 k1 l0 t116 (wrap64 (x5_1 + 1)))) = some r := H
      have A6 := Aside0.mk A60
      clear A60
      by_cases c7 : t116 < 0
      ·rw [if_pos c7] at H
       have c7b0 : decide (t116 < 0) = true := decide_eq_true c7
       clear c7
       obtain rfl := Option.some.inj H
       simp only [Option.some.injEq, Prod.mk.injEq] at H
       obtain ⟨rfl⟩ := H
       have p115 : 0 ≤ (x5_1 : Int) := of_decide_eq_true (by first | (with_reducible assumption) | assumption)
       have q115 : x5_1 < (l0.length : Int) := of_decide_eq_true (by first | (with_reducible assumption) | assumption)
       obtain ⟨ad115, A115_0, c115_0, e115, hx115_0, hl115_0, hi115_0⟩ := at_L2 HR0.out x5_1 p115 q115
       cases e115
       have HR115_0 := Aside0.mk hi115_0
       have HC115_0 := Aside0.mk hl115_0
       clear hi115_0 hl115_0
       replace p115 := eq_true p115
       replace q115 := eq_true q115
       go_wp2_with (first | ((with_reducible refine gate_callee (f := 64) rfl ?_); refine goesL_ (some 23) rfl rfl Tryd.func64 (by kernel_rfl) rfl #[.slice A115_0 (rd_L2 l0 x5_1).length c115_0, .int .i64 x1_1] rfl (by (try simp only [List.map_toArray, List.map_cons, List.map_nil]); first | done | rfl | (simp only [List.length_drop, List.length_take]; rfl)) ?_; (with_reducible refine (laws_szInt64S.calls _ _ (rd_L2 l0 x5_1) x1_1 t116 _ ?side1 ?side2 A6.out).mono ?_); (case side1 => repeat (first | exact HR115_0.out | (with_reducible refine Kd.C_alloc ?_ _) | (with_reducible refine Kd.C_drewN ?_ _) | (with_reducible refine Kd.C_drew ?_))); (case side2 => exact HC115_0.out); rintro e w' ⟨rfl, ⟨nd, rfl⟩⟩; refine ⟨_, rfl, ?_⟩))
       go_ret
       exact ⟨by first | rfl | (simp; done) | (simp [*]; done) | (simp [wrap64]; done), by repeat (first | exact Drawn0.refl _ | apply Drawn0.step)⟩
      ·rw [if_neg c7] at H
       have c7b0 : decide (t116 < 0) = false := decide_eq_false c7
       clear c7
       have H' := Aside0.mk H
       clear H
       have p115 : 0 ≤ (x5_1 : Int) := of_decide_eq_true (by first | (with_reducible assumption) | assumption)
       have q115 : x5_1 < (l0.length : Int) := of_decide_eq_true (by first | (with_reducible assumption) | assumption)
       obtain ⟨ad115, A115_0, c115_0, e115, hx115_0, hl115_0, hi115_0⟩ := at_L2 HR0.out x5_1 p115 q115
       cases e115
       have HR115_0 := Aside0.mk hi115_0
       have HC115_0 := Aside0.mk hl115_0
       clear hi115_0 hl115_0
       replace p115 := eq_true p115
       replace q115 := eq_true q115
       go_wp2_with (first | ((with_reducible refine gate_callee (f := 64) rfl ?_); refine goesL_ (some 23) rfl rfl Tryd.func64 (by kernel_rfl) rfl #[.slice A115_0 (rd_L2 l0 x5_1).length c115_0, .int .i64 x1_1] rfl (by (try simp only [List.map_toArray, List.map_cons, List.map_nil]); first | done | rfl | (simp only [List.length_drop, List.length_take]; rfl)) ?_; (with_reducible refine (laws_szInt64S.calls _ _ (rd_L2 l0 x5_1) x1_1 t116 _ ?side1 ?side2 A6.out).mono ?_); (case side1 => repeat (first | exact HR115_0.out | (with_reducible refine Kd.C_alloc ?_ _) | (with_reducible refine Kd.C_drewN ?_ _) | (with_reducible refine Kd.C_drew ?_))); (case side2 => exact HC115_0.out); rintro e w' ⟨rfl, ⟨nd, rfl⟩⟩; refine ⟨_, rfl, ?_⟩))
       go_roundg k1
       case measure => have := HK1.out; omega
       case rel => exact ⟨(t116), (wrap64 (x5_1 + 1)), (by first | rfl | (simp; done) | (simp [*]; done) | (simp [wrap64]; done)), (by first | rfl | (simp; done) | (simp [*]; done) | (simp [wrap64]; done)), H', ⟨by have := HK1.out; omega⟩, by repeat (first | exact Drawn0.refl _ | apply Drawn0.step)⟩
     ·rw [if_neg c5] at H
      exact absurd H (by simp)
    ·rw [if_neg c4] at H
     have c4b0 : decide (x5_1 < (l0.length : Int)) = false := decide_eq_false c4
     clear c4
     obtain rfl := Option.some.inj H
     simp only [Option.some.injEq, Prod.mk.injEq] at H
     obtain ⟨rfl⟩ := H
     go_wp2
     go_ret
     exact ⟨by first | rfl | (simp; done) | (simp [*]; done) | (simp [wrap64]; done), by repeat (first | exact Drawn0.refl _ | apply Drawn0.step)⟩
/-! ### laws_szRelation: function 6 -/
def laws_szRelation.f (k : Nat) (a0_0 : Int) (a0_1 : Int) (l0_2 : List Bool) (l0_3 : List (List Int)) (a1 : Int) : Option (Int) := (laws_szBoolS.f l0_2 a1).bind fun t118 => (if t118 < 0 then (some (-1)) else ((laws_szInt64SS.f k l0_3 t118).bind fun t119 => (if t119 < 0 then (some (-1)) else (some t119))))
theorem laws_szRelation.mono : ∀ a0 a1 a2 a3 a4 k, LeO (laws_szRelation.f k a0 a1 a2 a3 a4) (laws_szRelation.f (k + 1) a0 a1 a2 a3 a4) := by
 intro a0 a1 a2 a3 a4 k
 unfold laws_szRelation.f
 repeat' first
   | (with_reducible exact laws_szInt64SS.mono _ _ _)
   | (with_reducible exact LeO.refl _)
   | (with_reducible exact LeO.none _)
   | (with_reducible refine LeO.ite ?_ ?_)
   | (with_reducible refine LeO.bind ?_ (fun _ => ?_))
   | exact laws_szInt64SS.mono _ _ _
   | exact LeO.none _
   | refine LeO.ite ?_ ?_
   | refine LeO.bind ?_ (fun _ => ?_)
set_option maxHeartbeats 8000000 in
set_option maxRecDepth 100000 in
theorem laws_szRelation.calls (k : Nat) (a0_0 : Int) (a0_1 : Int) (A0_2 : Option Addr) (c0_2 : Nat) (l0_2 : List Bool) (A0_3 : Option Addr) (c0_3 : Nat) (l0_3 : List (List Int)) (a1 : Int) (r : Int) (w : World) (hr0_2 : Kd.C Kd.bool w A0_2 l0_2.length l0_2) (hc0_2 : l0_2.length ≤ c0_2) (hr0_3 : Kd.C (Kd.slice 2 (Kd.int .i64)) w A0_3 l0_3.length l0_3) (hc0_3 : l0_3.length ≤ c0_3) (h : laws_szRelation.f k a0_0 a0_1 l0_2 l0_3 a1 = some r) :
  Calls Tryd.prog 6 #[.agg #[.int .i64 a0_0, .int .i64 a0_1, .slice A0_2 l0_2.length c0_2, .slice A0_3 l0_3.length c0_3], .int .i64 a1] w fun e w' => e = .returned (.int .i64 r) ∧ Below w.heap.size w w' := by
 have hu25 := Tryd.underlying25
 have HR0_2 := Aside0.mk hr0_2
 have HC0_2 := Aside0.mk hc0_2
 clear hr0_2 hc0_2
 have HR0_3 := Aside0.mk hr0_3
 have HC0_3 := Aside0.mk hc0_3
 clear hr0_3 hc0_3
 have HB := Aside0.mk (Below.refl w.heap.size w)
 have H : ((laws_szBoolS.f l0_2 a1).bind fun t118 => (if t118 < 0 then (some (-1)) else ((laws_szInt64SS.f k l0_3 t118).bind fun t119 => (if t119 < 0 then (some (-1)) else (some t119))))) = some r := h
 clear h
 replace H := Option.bind_eq_some_iff.mp H
 obtain ⟨t118, A30, H⟩ := H
 replace H : (if t118 < 0 then (some (-1)) else ((laws_szInt64SS.f k l0_3 t118).bind fun t119 => (if t119 < 0 then (some (-1)) else (some t119)))) = some r := H
 have A3 := Aside0.mk A30
 clear A30
 by_cases c4 : t118 < 0
 ·rw [if_pos c4] at H
  have c4b0 : decide (t118 < 0) = true := decide_eq_true c4
  clear c4
  obtain rfl := Option.some.inj H
  simp only [Option.some.injEq, Prod.mk.injEq] at H
  obtain ⟨rfl⟩ := H
  go_enter Tryd.func6, Tryd.ntmps6
  go_wp2_with (first | ((with_reducible refine gate_dst (N := 2) rfl ?_); refine box_event ?hg (N := 2) ?hd (cs := #[.int .i64 a0_0, .int .i64 a0_1, .slice A0_2 l0_2.length c0_2, .slice A0_3 l0_3.length c0_3]) (t := 25) ?hr ?_; (case hd => rfl); (case hg => rfl); (case hr => first | (go_simp; done) | (go_simp; rfl)); intro gb117 hg w5 hbox hb; have n0_ := Aside0.mk (below_step (by repeat (first | (with_reducible first | exact HB.out | apply below_alloc | apply pw_below_drewN | apply below_drew1) | exact HB.out)) hb); have n1_ := Aside0.mk (hbox); have n2_ := Aside0.mk ((by rw [hg]; exact (below_size (by repeat (first | (with_reducible first | exact HB.out | apply below_alloc | apply pw_below_drewN | apply below_drew1) | exact HB.out))) : w.heap.size ≤ gb117)); have n3_ := Aside0.mk ((by rw [hg]; exact (below_size (by repeat (first | (with_reducible first | exact HB.out | apply below_alloc | apply pw_below_drewN | apply below_drew1) | exact HB.out))) : w.heap.size ≤ gb117)); clear HB; have HB := n0_; have BK117 := n1_; have GW117 := n2_; have GE117 := n3_; clear n0_ n1_ n2_ n3_; clear hb hbox hg; have hcz6_0 : w5.cell? ⟨gb117, 0, none⟩ = some (.int .i64 a0_0) := (blk_cell BK117.out 0).trans rfl; have hcz6_1 : w5.cell? ⟨gb117, 1, none⟩ = some (.int .i64 a0_1) := (blk_cell BK117.out 1).trans rfl; have hcz6_2 : w5.cell? ⟨gb117, 2, none⟩ = some (.slice A0_2 l0_2.length c0_2) := (blk_cell BK117.out 2).trans rfl; have hcz6_3 : w5.cell? ⟨gb117, 3, none⟩ = some (.slice A0_3 l0_3.length c0_3) := (blk_cell BK117.out 3).trans rfl; have hfz6_0 := blk_frozen BK117.out 0; have hfz6_1 := blk_frozen BK117.out 1; have hfz6_2 := blk_frozen BK117.out 2; have hfz6_3 := blk_frozen BK117.out 3) | ((with_reducible refine gate_callee (f := 22) rfl ?_); refine goesL_ (some 8) rfl rfl Tryd.func22 (by kernel_rfl) rfl #[.slice A0_2 l0_2.length c0_2, .int .i64 a1] rfl (by (try simp only [List.map_toArray, List.map_cons, List.map_nil]); first | done | rfl | (simp only [List.length_drop, List.length_take]; rfl)) ?_; (with_reducible refine (laws_szBoolS.calls _ _ l0_2 a1 t118 _ ?side1 ?side2 A3.out).mono ?_); (case side1 => repeat (first | exact (Kd.C_below HR0_2.out HB.out) | (with_reducible refine Kd.C_alloc ?_ _) | (with_reducible refine Kd.C_drewN ?_ _) | (with_reducible refine Kd.C_drew ?_))); (case side2 => exact HC0_2.out); rintro e w' ⟨rfl, ⟨nd, rfl⟩⟩; refine ⟨_, rfl, ?_⟩))
  go_ret
  exact ⟨by first | rfl | (simp [errW_none, errW_some] <;> rfl) | (simp [*, errW_none, errW_some] <;> rfl), by repeat (first | (with_reducible first | exact HB.out | apply below_alloc | apply pw_below_drewN | apply below_drew1 | refine below_set ?_ GE117.out) | exact HB.out)⟩
 ·rw [if_neg c4] at H
  have c4b0 : decide (t118 < 0) = false := decide_eq_false c4
  clear c4
  replace H := Option.bind_eq_some_iff.mp H
  obtain ⟨t119, A70, H⟩ := H
  replace H : (if t119 < 0 then (some (-1)) else (some t119)) = some r := H
  have A7 := Aside0.mk A70
  clear A70
  by_cases c8 : t119 < 0
  ·rw [if_pos c8] at H
   have c8b0 : decide (t119 < 0) = true := decide_eq_true c8
   clear c8
   obtain rfl := Option.some.inj H
   simp only [Option.some.injEq, Prod.mk.injEq] at H
   obtain ⟨rfl⟩ := H
   go_enter Tryd.func6, Tryd.ntmps6
   go_wp2_with (first | ((with_reducible refine gate_dst (N := 2) rfl ?_); refine box_event ?hg (N := 2) ?hd (cs := #[.int .i64 a0_0, .int .i64 a0_1, .slice A0_2 l0_2.length c0_2, .slice A0_3 l0_3.length c0_3]) (t := 25) ?hr ?_; (case hd => rfl); (case hg => rfl); (case hr => first | (go_simp; done) | (go_simp; rfl)); intro gb117 hg w9 hbox hb; have n0_ := Aside0.mk (below_step (by repeat (first | (with_reducible first | exact HB.out | apply below_alloc | apply pw_below_drewN | apply below_drew1) | exact HB.out)) hb); have n1_ := Aside0.mk (hbox); have n2_ := Aside0.mk ((by rw [hg]; exact (below_size (by repeat (first | (with_reducible first | exact HB.out | apply below_alloc | apply pw_below_drewN | apply below_drew1) | exact HB.out))) : w.heap.size ≤ gb117)); have n3_ := Aside0.mk ((by rw [hg]; exact (below_size (by repeat (first | (with_reducible first | exact HB.out | apply below_alloc | apply pw_below_drewN | apply below_drew1) | exact HB.out))) : w.heap.size ≤ gb117)); clear HB; have HB := n0_; have BK117 := n1_; have GW117 := n2_; have GE117 := n3_; clear n0_ n1_ n2_ n3_; clear hb hbox hg; have hcz10_0 : w9.cell? ⟨gb117, 0, none⟩ = some (.int .i64 a0_0) := (blk_cell BK117.out 0).trans rfl; have hcz10_1 : w9.cell? ⟨gb117, 1, none⟩ = some (.int .i64 a0_1) := (blk_cell BK117.out 1).trans rfl; have hcz10_2 : w9.cell? ⟨gb117, 2, none⟩ = some (.slice A0_2 l0_2.length c0_2) := (blk_cell BK117.out 2).trans rfl; have hcz10_3 : w9.cell? ⟨gb117, 3, none⟩ = some (.slice A0_3 l0_3.length c0_3) := (blk_cell BK117.out 3).trans rfl; have hfz10_0 := blk_frozen BK117.out 0; have hfz10_1 := blk_frozen BK117.out 1; have hfz10_2 := blk_frozen BK117.out 2; have hfz10_3 := blk_frozen BK117.out 3) | ((with_reducible refine gate_callee (f := 22) rfl ?_); refine goesL_ (some 8) rfl rfl Tryd.func22 (by kernel_rfl) rfl #[.slice A0_2 l0_2.length c0_2, .int .i64 a1] rfl (by (try simp only [List.map_toArray, List.map_cons, List.map_nil]); first | done | rfl | (simp only [List.length_drop, List.length_take]; rfl)) ?_; (with_reducible refine (laws_szBoolS.calls _ _ l0_2 a1 t118 _ ?side1 ?side2 A3.out).mono ?_); (case side1 => repeat (first | exact (Kd.C_below HR0_2.out HB.out) | (with_reducible refine Kd.C_alloc ?_ _) | (with_reducible refine Kd.C_drewN ?_ _) | (with_reducible refine Kd.C_drew ?_))); (case side2 => exact HC0_2.out); rintro e w' ⟨rfl, ⟨nd, rfl⟩⟩; refine ⟨_, rfl, ?_⟩) | ((with_reducible refine gate_callee (f := 23) rfl ?_); refine goesL_ (some 14) rfl rfl Tryd.func23 (by kernel_rfl) rfl #[.slice A0_3 l0_3.length c0_3, .int .i64 t118] rfl (by (try simp only [List.map_toArray, List.map_cons, List.map_nil]); first | done | rfl | (simp only [List.length_drop, List.length_take]; rfl)) ?_; (with_reducible refine (laws_szInt64SS.calls k _ _ l0_3 t118 t119 _ ?side1 ?side2 A7.out).mono ?_); (case side1 => repeat (first | exact (Kd.C_below HR0_3.out (by repeat (first | (with_reducible first | exact HB.out | apply below_alloc | apply pw_below_drewN | apply below_drew1 | refine below_set ?_ GE117.out) | exact HB.out))) | (with_reducible refine Kd.C_alloc ?_ _) | (with_reducible refine Kd.C_drewN ?_ _) | (with_reducible refine Kd.C_drew ?_))); (case side2 => exact HC0_3.out); rintro e w' ⟨rfl, ⟨nd, rfl⟩⟩; refine ⟨_, rfl, ?_⟩))
   go_ret
   exact ⟨by first | rfl | (simp [errW_none, errW_some] <;> rfl) | (simp [*, errW_none, errW_some] <;> rfl), by repeat (first | (with_reducible first | exact HB.out | apply below_alloc | apply pw_below_drewN | apply below_drew1 | refine below_set ?_ GE117.out) | exact HB.out)⟩
  ·rw [if_neg c8] at H
   have c8b0 : decide (t119 < 0) = false := decide_eq_false c8
   clear c8
   obtain rfl := Option.some.inj H
   simp only [Option.some.injEq, Prod.mk.injEq] at H
   obtain ⟨rfl⟩ := H
   go_enter Tryd.func6, Tryd.ntmps6
   go_wp2_with (first | ((with_reducible refine gate_dst (N := 2) rfl ?_); refine box_event ?hg (N := 2) ?hd (cs := #[.int .i64 a0_0, .int .i64 a0_1, .slice A0_2 l0_2.length c0_2, .slice A0_3 l0_3.length c0_3]) (t := 25) ?hr ?_; (case hd => rfl); (case hg => rfl); (case hr => first | (go_simp; done) | (go_simp; rfl)); intro gb117 hg w11 hbox hb; have n0_ := Aside0.mk (below_step (by repeat (first | (with_reducible first | exact HB.out | apply below_alloc | apply pw_below_drewN | apply below_drew1) | exact HB.out)) hb); have n1_ := Aside0.mk (hbox); have n2_ := Aside0.mk ((by rw [hg]; exact (below_size (by repeat (first | (with_reducible first | exact HB.out | apply below_alloc | apply pw_below_drewN | apply below_drew1) | exact HB.out))) : w.heap.size ≤ gb117)); have n3_ := Aside0.mk ((by rw [hg]; exact (below_size (by repeat (first | (with_reducible first | exact HB.out | apply below_alloc | apply pw_below_drewN | apply below_drew1) | exact HB.out))) : w.heap.size ≤ gb117)); clear HB; have HB := n0_; have BK117 := n1_; have GW117 := n2_; have GE117 := n3_; clear n0_ n1_ n2_ n3_; clear hb hbox hg; have hcz12_0 : w11.cell? ⟨gb117, 0, none⟩ = some (.int .i64 a0_0) := (blk_cell BK117.out 0).trans rfl; have hcz12_1 : w11.cell? ⟨gb117, 1, none⟩ = some (.int .i64 a0_1) := (blk_cell BK117.out 1).trans rfl; have hcz12_2 : w11.cell? ⟨gb117, 2, none⟩ = some (.slice A0_2 l0_2.length c0_2) := (blk_cell BK117.out 2).trans rfl; have hcz12_3 : w11.cell? ⟨gb117, 3, none⟩ = some (.slice A0_3 l0_3.length c0_3) := (blk_cell BK117.out 3).trans rfl; have hfz12_0 := blk_frozen BK117.out 0; have hfz12_1 := blk_frozen BK117.out 1; have hfz12_2 := blk_frozen BK117.out 2; have hfz12_3 := blk_frozen BK117.out 3) | ((with_reducible refine gate_callee (f := 22) rfl ?_); refine goesL_ (some 8) rfl rfl Tryd.func22 (by kernel_rfl) rfl #[.slice A0_2 l0_2.length c0_2, .int .i64 a1] rfl (by (try simp only [List.map_toArray, List.map_cons, List.map_nil]); first | done | rfl | (simp only [List.length_drop, List.length_take]; rfl)) ?_; (with_reducible refine (laws_szBoolS.calls _ _ l0_2 a1 t118 _ ?side1 ?side2 A3.out).mono ?_); (case side1 => repeat (first | exact (Kd.C_below HR0_2.out HB.out) | (with_reducible refine Kd.C_alloc ?_ _) | (with_reducible refine Kd.C_drewN ?_ _) | (with_reducible refine Kd.C_drew ?_))); (case side2 => exact HC0_2.out); rintro e w' ⟨rfl, ⟨nd, rfl⟩⟩; refine ⟨_, rfl, ?_⟩) | ((with_reducible refine gate_callee (f := 23) rfl ?_); refine goesL_ (some 14) rfl rfl Tryd.func23 (by kernel_rfl) rfl #[.slice A0_3 l0_3.length c0_3, .int .i64 t118] rfl (by (try simp only [List.map_toArray, List.map_cons, List.map_nil]); first | done | rfl | (simp only [List.length_drop, List.length_take]; rfl)) ?_; (with_reducible refine (laws_szInt64SS.calls k _ _ l0_3 t118 t119 _ ?side1 ?side2 A7.out).mono ?_); (case side1 => repeat (first | exact (Kd.C_below HR0_3.out (by repeat (first | (with_reducible first | exact HB.out | apply below_alloc | apply pw_below_drewN | apply below_drew1 | refine below_set ?_ GE117.out) | exact HB.out))) | (with_reducible refine Kd.C_alloc ?_ _) | (with_reducible refine Kd.C_drewN ?_ _) | (with_reducible refine Kd.C_drew ?_))); (case side2 => exact HC0_3.out); rintro e w' ⟨rfl, ⟨nd, rfl⟩⟩; refine ⟨_, rfl, ?_⟩))
   go_ret
   exact ⟨by first | rfl | (simp [errW_none, errW_some] <;> rfl) | (simp [*, errW_none, errW_some] <;> rfl), by repeat (first | (with_reducible first | exact HB.out | apply below_alloc | apply pw_below_drewN | apply below_drew1 | refine below_set ?_ GE117.out) | exact HB.out)⟩
/-! ### laws_eqBoolS: function 32 -/
def laws_eqBoolS.l0 : Nat → List Bool → List Bool → Int → Option (Bool)
 | 0, _, _, _ => none
 | k + 1, x0, x1, x5 => if x5 < (x0.length : Int) then (if 0 ≤ x5 then (if x5 < (x1.length : Int) then (if ((rdOf false x0 x5) != (rdOf false x1 x5)) = true then (some false) else (laws_eqBoolS.l0 k x0 x1 (wrap64 (x5 + 1)))) else (none)) else (none)) else (some true)
def laws_eqBoolS.f (k : Nat) (l0 : List Bool) (l1 : List Bool) : Option (Bool) := if (l0.length : Int) = (l1.length : Int) then (laws_eqBoolS.l0 k l0 l1 0) else (some false)
theorem laws_eqBoolS.mono_l : ∀ k, (∀ y0 y1 y2, LeO (laws_eqBoolS.l0 k y0 y1 y2) (laws_eqBoolS.l0 (k + 1) y0 y1 y2))
 | 0 => fun _ _ _ r h => by simp [laws_eqBoolS.l0] at h
 | k + 1 => by
  have ih0 := laws_eqBoolS.mono_l k
  ·intro y0 y1 y2
   unfold laws_eqBoolS.l0
   repeat' first
   | (with_reducible exact ih0 _ _ _)
   | (with_reducible exact LeO.refl _)
   | (with_reducible exact LeO.none _)
   | (with_reducible refine LeO.ite ?_ ?_)
   | (with_reducible refine LeO.bind ?_ (fun _ => ?_))
   | exact ih0 _ _ _
   | exact LeO.none _
   | refine LeO.ite ?_ ?_
   | refine LeO.bind ?_ (fun _ => ?_)
theorem laws_eqBoolS.mono : ∀ a0 a1 k, LeO (laws_eqBoolS.f k a0 a1) (laws_eqBoolS.f (k + 1) a0 a1) := by
 intro a0 a1 k
 have ih0 := laws_eqBoolS.mono_l k
 unfold laws_eqBoolS.f
 repeat' first
   | (with_reducible exact ih0 _ _ _)
   | (with_reducible exact LeO.refl _)
   | (with_reducible exact LeO.none _)
   | (with_reducible refine LeO.ite ?_ ?_)
   | (with_reducible refine LeO.bind ?_ (fun _ => ?_))
   | exact ih0 _ _ _
   | exact LeO.none _
   | refine LeO.ite ?_ ?_
   | refine LeO.bind ?_ (fun _ => ?_)
set_option maxHeartbeats 8000000 in
set_option maxRecDepth 100000 in
theorem laws_eqBoolS.calls (k : Nat) (A0 : Option Addr) (c0 : Nat) (l0 : List Bool) (A1 : Option Addr) (c1 : Nat) (l1 : List Bool) (r : Bool) (w : World) (hr0 : Kd.C Kd.bool w A0 l0.length l0) (hc0 : l0.length ≤ c0) (hr1 : Kd.C Kd.bool w A1 l1.length l1) (hc1 : l1.length ≤ c1) (h : laws_eqBoolS.f k l0 l1 = some r) :
  Calls Tryd.prog 32 #[.slice A0 l0.length c0, .slice A1 l1.length c1] w fun e w' => e = .returned (.bool r) ∧ Drawn0 w w' := by
 have HR0 := Aside0.mk hr0
 have HC0 := Aside0.mk hc0
 clear hr0 hc0
 have HR1 := Aside0.mk hr1
 have HC1 := Aside0.mk hc1
 clear hr1 hc1
 have H : (if (l0.length : Int) = (l1.length : Int) then (laws_eqBoolS.l0 k l0 l1 0) else (some false)) = some r := h
 clear h
 by_cases c3 : (l0.length : Int) = (l1.length : Int)
 ·rw [if_pos c3] at H
  have c3b0 : ((l0.length : Int) == (l1.length : Int)) = true := beq_iff_eq.mpr c3
  have c3b1 : ((l0.length : Int) != (l1.length : Int)) = false := bne_eq_false_iff_eq.mpr c3
  have c3b2 : (l0.length == l1.length) = true := by first | simpa using c3 | (simp at c3 ⊢; omega)
  clear c3
  have H' := Aside0.mk H
  clear H
  go_enter Tryd.func32, Tryd.ntmps32
  go_wp2
  repeat (go_quiet (fail); try go_wp2)
  go_loopg [5] k (fun kq v5 w' => ∃ (x5_1 : Int), v5 = .int .i64 x5_1 ∧ Aside0 (laws_eqBoolS.l0 kq l0 l1 x5_1 = some r) ∧ Aside0 (kq ≤ k) ∧ Drawn0 w w')
  case atStart => exact ⟨(0), (by first | rfl | (simp; done) | (simp [*]; done) | (simp [wrap64]; done)), H', ⟨Nat.le_refl _⟩, by repeat (first | exact Drawn0.refl _ | apply Drawn0.step)⟩
  case round =>
   clear H'
   try clear c1
   try clear p2
   try clear c3
   try clear c3b0
   try clear c3b1
   try clear c3b2
   obtain ⟨x5_1, rfl, HA, HK1, ⟨m1, rfl⟩⟩ := hrel
   cases gk with
   | zero => exact absurd HA.out (by simp [laws_eqBoolS.l0])
   | succ k1 =>
    have H := HA.out
    clear HA
    simp only [laws_eqBoolS.l0] at H
    by_cases c4 : x5_1 < (l0.length : Int)
    ·rw [if_pos c4] at H
     have c4b0 : decide (x5_1 < (l0.length : Int)) = true := decide_eq_true c4
     clear c4
     by_cases c5 : 0 ≤ x5_1
     ·rw [if_pos c5] at H
      have c5b0 : decide (0 ≤ x5_1) = true := decide_eq_true c5
      clear c5
      by_cases c6 : x5_1 < (l1.length : Int)
      ·rw [if_pos c6] at H
       have c6b0 : decide (x5_1 < (l1.length : Int)) = true := decide_eq_true c6
       clear c6
       by_cases c7 : ((rdOf false l0 x5_1) != (rdOf false l1 x5_1)) = true
       ·rw [if_pos c7] at H
        have c7b0 : ((rdOf false l0 x5_1) != (rdOf false l1 x5_1)) = true := c7
        (try (have c7b1 : decide ((rdOf false l0 x5_1) = (rdOf false l1 x5_1)) = false := by simpa using c7))
        (try (have c7b2 : ((rdOf false l0 x5_1) == (rdOf false l1 x5_1)) = false := by simpa using c7))
        (try (have c7b3 : ¬ ((rdOf false l0 x5_1) = (rdOf false l1 x5_1)) := by simpa using c7))
        clear c7
        obtain rfl := Option.some.inj H
        simp only [Option.some.injEq, Prod.mk.injEq] at H
        obtain ⟨rfl⟩ := H
        have p120 : 0 ≤ (x5_1 : Int) := of_decide_eq_true (by first | (with_reducible assumption) | assumption)
        have q120 : x5_1 < (l0.length : Int) := of_decide_eq_true (by first | (with_reducible assumption) | assumption)
        obtain ⟨ad120, e120, hx120_0⟩ := Kd.at_bool HR0.out x5_1 p120 q120
        cases e120
        replace p120 := eq_true p120
        replace q120 := eq_true q120
        have p121 : 0 ≤ (x5_1 : Int) := of_decide_eq_true (by first | (with_reducible assumption) | assumption)
        have q121 : x5_1 < (l1.length : Int) := of_decide_eq_true (by first | (with_reducible assumption) | assumption)
        obtain ⟨ad121, e121, hx121_0⟩ := Kd.at_bool HR1.out x5_1 p121 q121
        cases e121
        replace p121 := eq_true p121
        replace q121 := eq_true q121
        go_wp2
        repeat (go_quiet (fail); try go_wp2)
        go_ret
        exact ⟨by first | rfl | (simp; done) | (simp [*]; done) | (simp [wrap64]; done), by repeat (first | exact Drawn0.refl _ | apply Drawn0.step)⟩
       ·rw [if_neg c7] at H
        have c7b0 : ((rdOf false l0 x5_1) != (rdOf false l1 x5_1)) = false := by simpa using c7
        (try (have c7b1 : decide ((rdOf false l0 x5_1) = (rdOf false l1 x5_1)) = true := by simpa using c7))
        (try (have c7b2 : ((rdOf false l0 x5_1) == (rdOf false l1 x5_1)) = true := by simpa using c7))
        clear c7
        have H' := Aside0.mk H
        clear H
        have p120 : 0 ≤ (x5_1 : Int) := of_decide_eq_true (by first | (with_reducible assumption) | assumption)
        have q120 : x5_1 < (l0.length : Int) := of_decide_eq_true (by first | (with_reducible assumption) | assumption)
        obtain ⟨ad120, e120, hx120_0⟩ := Kd.at_bool HR0.out x5_1 p120 q120
        cases e120
        replace p120 := eq_true p120
        replace q120 := eq_true q120
        have p121 : 0 ≤ (x5_1 : Int) := of_decide_eq_true (by first | (with_reducible assumption) | assumption)
        have q121 : x5_1 < (l1.length : Int) := of_decide_eq_true (by first | (with_reducible assumption) | assumption)
        obtain ⟨ad121, e121, hx121_0⟩ := Kd.at_bool HR1.out x5_1 p121 q121
        cases e121
        replace p121 := eq_true p121
        replace q121 := eq_true q121
        go_wp2
        repeat (go_quiet (fail); try go_wp2)
        go_roundg k1
        case measure => have := HK1.out; omega
        case rel => exact ⟨(wrap64 (x5_1 + 1)), (by first | rfl | (simp; done) | (simp [*]; done) | (simp [wrap64]; done)), H', ⟨by have := HK1.out; omega⟩, by repeat (first | exact Drawn0.refl _ | apply Drawn0.step)⟩
      ·rw [if_neg c6] at H
       exact absurd H (by simp)
     ·rw [if_neg c5] at H
      exact absurd H (by simp)
    ·rw [if_neg c4] at H
     have c4b0 : decide (x5_1 < (l0.length : Int)) = false := decide_eq_false c4
     clear c4
     obtain rfl := Option.some.inj H
     simp only [Option.some.injEq, Prod.mk.injEq] at H
     obtain ⟨rfl⟩ := H
     go_wp2
     repeat (go_quiet (fail); try go_wp2)
     go_ret
     exact ⟨by first | rfl | (simp; done) | (simp [*]; done) | (simp [wrap64]; done), by repeat (first | exact Drawn0.refl _ | apply Drawn0.step)⟩
 ·rw [if_neg c3] at H
  have c3b0 : ((l0.length : Int) == (l1.length : Int)) = false := beq_eq_false_iff_ne.mpr c3
  have c3b1 : ((l0.length : Int) != (l1.length : Int)) = true := bne_iff_ne.mpr c3
  have c3b2 : (l0.length == l1.length) = false := by first | simpa using c3 | (simp at c3 ⊢; omega)
  obtain rfl := Option.some.inj H
  simp only [Option.some.injEq, Prod.mk.injEq] at H
  obtain ⟨rfl⟩ := H
  go_enter Tryd.func32, Tryd.ntmps32
  go_wp2
  repeat (go_quiet (fail); try go_wp2)
  go_ret
  exact ⟨by first | rfl | (simp; done) | (simp [*]; done) | (simp [wrap64]; done), by repeat (first | exact Drawn0.refl _ | apply Drawn0.step)⟩
/-! ### laws_eqInt64S: function 76 -/
def laws_eqInt64S.l0 : Nat → List Int → List Int → Int → Option (Bool)
 | 0, _, _, _ => none
 | k + 1, x0, x1, x5 => if x5 < (x0.length : Int) then (if 0 ≤ x5 then (if x5 < (x1.length : Int) then (if (rd x0 x5) = (rd x1 x5) then (laws_eqInt64S.l0 k x0 x1 (wrap64 (x5 + 1))) else (some false)) else (none)) else (none)) else (some true)
def laws_eqInt64S.f (k : Nat) (l0 : List Int) (l1 : List Int) : Option (Bool) := if (l0.length : Int) = (l1.length : Int) then (laws_eqInt64S.l0 k l0 l1 0) else (some false)
theorem laws_eqInt64S.mono_l : ∀ k, (∀ y0 y1 y2, LeO (laws_eqInt64S.l0 k y0 y1 y2) (laws_eqInt64S.l0 (k + 1) y0 y1 y2))
 | 0 => fun _ _ _ r h => by simp [laws_eqInt64S.l0] at h
 | k + 1 => by
  have ih0 := laws_eqInt64S.mono_l k
  ·intro y0 y1 y2
   unfold laws_eqInt64S.l0
   repeat' first
   | (with_reducible exact ih0 _ _ _)
   | (with_reducible exact LeO.refl _)
   | (with_reducible exact LeO.none _)
   | (with_reducible refine LeO.ite ?_ ?_)
   | (with_reducible refine LeO.bind ?_ (fun _ => ?_))
   | exact ih0 _ _ _
   | exact LeO.none _
   | refine LeO.ite ?_ ?_
   | refine LeO.bind ?_ (fun _ => ?_)
theorem laws_eqInt64S.mono : ∀ a0 a1 k, LeO (laws_eqInt64S.f k a0 a1) (laws_eqInt64S.f (k + 1) a0 a1) := by
 intro a0 a1 k
 have ih0 := laws_eqInt64S.mono_l k
 unfold laws_eqInt64S.f
 repeat' first
   | (with_reducible exact ih0 _ _ _)
   | (with_reducible exact LeO.refl _)
   | (with_reducible exact LeO.none _)
   | (with_reducible refine LeO.ite ?_ ?_)
   | (with_reducible refine LeO.bind ?_ (fun _ => ?_))
   | exact ih0 _ _ _
   | exact LeO.none _
   | refine LeO.ite ?_ ?_
   | refine LeO.bind ?_ (fun _ => ?_)
set_option maxHeartbeats 8000000 in
set_option maxRecDepth 100000 in
theorem laws_eqInt64S.calls (k : Nat) (A0 : Option Addr) (c0 : Nat) (l0 : List Int) (A1 : Option Addr) (c1 : Nat) (l1 : List Int) (r : Bool) (w : World) (hr0 : Kd.C (Kd.int .i64) w A0 l0.length l0) (hc0 : l0.length ≤ c0) (hr1 : Kd.C (Kd.int .i64) w A1 l1.length l1) (hc1 : l1.length ≤ c1) (h : laws_eqInt64S.f k l0 l1 = some r) :
  Calls Tryd.prog 76 #[.slice A0 l0.length c0, .slice A1 l1.length c1] w fun e w' => e = .returned (.bool r) ∧ Drawn0 w w' := by
 have HR0 := Aside0.mk hr0
 have HC0 := Aside0.mk hc0
 clear hr0 hc0
 have HR1 := Aside0.mk hr1
 have HC1 := Aside0.mk hc1
 clear hr1 hc1
 have H : (if (l0.length : Int) = (l1.length : Int) then (laws_eqInt64S.l0 k l0 l1 0) else (some false)) = some r := h
 clear h
 by_cases c3 : (l0.length : Int) = (l1.length : Int)
 ·rw [if_pos c3] at H
  have c3b0 : ((l0.length : Int) == (l1.length : Int)) = true := beq_iff_eq.mpr c3
  have c3b1 : ((l0.length : Int) != (l1.length : Int)) = false := bne_eq_false_iff_eq.mpr c3
  have c3b2 : (l0.length == l1.length) = true := by first | simpa using c3 | (simp at c3 ⊢; omega)
  clear c3
  have H' := Aside0.mk H
  clear H
  go_enter Tryd.func76, Tryd.ntmps76
  go_wp2
  repeat (go_quiet (fail); try go_wp2)
  go_loopg [5] k (fun kq v5 w' => ∃ (x5_1 : Int), v5 = .int .i64 x5_1 ∧ Aside0 (laws_eqInt64S.l0 kq l0 l1 x5_1 = some r) ∧ Aside0 (kq ≤ k) ∧ Drawn0 w w')
  case atStart => exact ⟨(0), (by first | rfl | (simp; done) | (simp [*]; done) | (simp [wrap64]; done)), H', ⟨Nat.le_refl _⟩, by repeat (first | exact Drawn0.refl _ | apply Drawn0.step)⟩
  case round =>
   clear H'
   try clear c1
   try clear p2
   try clear c3
   try clear c3b0
   try clear c3b1
   try clear c3b2
   obtain ⟨x5_1, rfl, HA, HK1, ⟨m1, rfl⟩⟩ := hrel
   cases gk with
   | zero => exact absurd HA.out (by simp [laws_eqInt64S.l0])
   | succ k1 =>
    have H := HA.out
    clear HA
    simp only [laws_eqInt64S.l0] at H
    by_cases c4 : x5_1 < (l0.length : Int)
    ·rw [if_pos c4] at H
     have c4b0 : decide (x5_1 < (l0.length : Int)) = true := decide_eq_true c4
     clear c4
     by_cases c5 : 0 ≤ x5_1
     ·rw [if_pos c5] at H
      have c5b0 : decide (0 ≤ x5_1) = true := decide_eq_true c5
      clear c5
      by_cases c6 : x5_1 < (l1.length : Int)
      ·rw [if_pos c6] at H
       have c6b0 : decide (x5_1 < (l1.length : Int)) = true := decide_eq_true c6
       clear c6
       by_cases c7 : (rd l0 x5_1) = (rd l1 x5_1)
       ·rw [if_pos c7] at H
        have c7b0 : ((rd l0 x5_1) == (rd l1 x5_1)) = true := beq_iff_eq.mpr c7
        have c7b1 : ((rd l0 x5_1) != (rd l1 x5_1)) = false := bne_eq_false_iff_eq.mpr c7
        clear c7
        have H' := Aside0.mk H
        clear H
        have p122 : 0 ≤ (x5_1 : Int) := of_decide_eq_true (by first | (with_reducible assumption) | assumption)
        have q122 : x5_1 < (l0.length : Int) := of_decide_eq_true (by first | (with_reducible assumption) | assumption)
        obtain ⟨ad122, e122, hx122_0⟩ := Kd.at_int HR0.out x5_1 p122 q122
        cases e122
        replace p122 := eq_true p122
        replace q122 := eq_true q122
        have p123 : 0 ≤ (x5_1 : Int) := of_decide_eq_true (by first | (with_reducible assumption) | assumption)
        have q123 : x5_1 < (l1.length : Int) := of_decide_eq_true (by first | (with_reducible assumption) | assumption)
        obtain ⟨ad123, e123, hx123_0⟩ := Kd.at_int HR1.out x5_1 p123 q123
        cases e123
        replace p123 := eq_true p123
        replace q123 := eq_true q123
        go_wp2
        repeat (go_quiet (fail); try go_wp2)
        go_roundg k1
        case measure => have := HK1.out; omega
        case rel => exact ⟨(wrap64 (x5_1 + 1)), (by first | rfl | (simp; done) | (simp [*]; done) | (simp [wrap64]; done)), H', ⟨by have := HK1.out; omega⟩, by repeat (first | exact Drawn0.refl _ | apply Drawn0.step)⟩
       ·rw [if_neg c7] at H
        have c7b0 : ((rd l0 x5_1) == (rd l1 x5_1)) = false := beq_eq_false_iff_ne.mpr c7
        have c7b1 : ((rd l0 x5_1) != (rd l1 x5_1)) = true := bne_iff_ne.mpr c7
        obtain rfl := Option.some.inj H
        simp only [Option.some.injEq, Prod.mk.injEq] at H
        obtain ⟨rfl⟩ := H
        have p122 : 0 ≤ (x5_1 : Int) := of_decide_eq_true (by first | (with_reducible assumption) | assumption)
        have q122 : x5_1 < (l0.length : Int) := of_decide_eq_true (by first | (with_reducible assumption) | assumption)
        obtain ⟨ad122, e122, hx122_0⟩ := Kd.at_int HR0.out x5_1 p122 q122
        cases e122
        replace p122 := eq_true p122
        replace q122 := eq_true q122
        have p123 : 0 ≤ (x5_1 : Int) := of_decide_eq_true (by first | (with_reducible assumption) | assumption)
        have q123 : x5_1 < (l1.length : Int) := of_decide_eq_true (by first | (with_reducible assumption) | assumption)
        obtain ⟨ad123, e123, hx123_0⟩ := Kd.at_int HR1.out x5_1 p123 q123
        cases e123
        replace p123 := eq_true p123
        replace q123 := eq_true q123
        go_wp2
        repeat (go_quiet (fail); try go_wp2)
        go_ret
        exact ⟨by first | rfl | (simp; done) | (simp [*]; done) | (simp [wrap64]; done), by repeat (first | exact Drawn0.refl _ | apply Drawn0.step)⟩
      ·rw [if_neg c6] at H
       exact absurd H (by simp)
     ·rw [if_neg c5] at H
      exact absurd H (by simp)
    ·rw [if_neg c4] at H
     have c4b0 : decide (x5_1 < (l0.length : Int)) = false := decide_eq_false c4
     clear c4
     obtain rfl := Option.some.inj H
     simp only [Option.some.injEq, Prod.mk.injEq] at H
     obtain ⟨rfl⟩ := H
     go_wp2
     repeat (go_quiet (fail); try go_wp2)
     go_ret
     exact ⟨by first | rfl | (simp; done) | (simp [*]; done) | (simp [wrap64]; done), by repeat (first | exact Drawn0.refl _ | apply Drawn0.step)⟩
 ·rw [if_neg c3] at H
  have c3b0 : ((l0.length : Int) == (l1.length : Int)) = false := beq_eq_false_iff_ne.mpr c3
  have c3b1 : ((l0.length : Int) != (l1.length : Int)) = true := bne_iff_ne.mpr c3
  have c3b2 : (l0.length == l1.length) = false := by first | simpa using c3 | (simp at c3 ⊢; omega)
  obtain rfl := Option.some.inj H
  simp only [Option.some.injEq, Prod.mk.injEq] at H
  obtain ⟨rfl⟩ := H
  go_enter Tryd.func76, Tryd.ntmps76
  go_wp2
  repeat (go_quiet (fail); try go_wp2)
  go_ret
  exact ⟨by first | rfl | (simp; done) | (simp [*]; done) | (simp [wrap64]; done), by repeat (first | exact Drawn0.refl _ | apply Drawn0.step)⟩
end Go.Proofs.YtnjdkhnepmmfgaaDoor.PT3
namespace Go.Proofs.YtnjdkhnepmmfgaaDoor.PT3
open Go.RowKit Go.Proofs.YtnjdkhnepmmfgaaDoorW.PrintWords Go.Proofs.YtnjdkhnepmmfgaaDoorW.PrintLast Go.Proofs.YtnjdkhnepmmfgaaDoorW.PrintMore PL1 Rw
attribute [local go_sem] max2_int min2_int max_two min_two max_three min_three max_four min_four   -- for this text's walks alone
set_option linter.unusedVariables false
set_option linter.unusedSimpArgs false
/-! ### laws_eqInt64SS: function 33 -/
def laws_eqInt64SS.l0 : Nat → List (List Int) → List (List Int) → Int → Option (Bool)
 | 0, _, _, _ => none
 | k + 1, x0, x1, x5 => if x5 < (x0.length : Int) then (if 0 ≤ x5 then (if x5 < (x1.length : Int) then ((laws_eqInt64S.f k (rd_L2 x0 x5) (rd_L2 x1 x5)).bind fun t126 => (if t126 = true then (laws_eqInt64SS.l0 k x0 x1 (wrap64 (x5 + 1))) else (some false))) else (none)) else (none)) else (some true)
def laws_eqInt64SS.f (k : Nat) (l0 : List (List Int)) (l1 : List (List Int)) : Option (Bool) := if (l0.length : Int) = (l1.length : Int) then (laws_eqInt64SS.l0 k l0 l1 0) else (some false)
theorem laws_eqInt64SS.mono_l : ∀ k, (∀ y0 y1 y2, LeO (laws_eqInt64SS.l0 k y0 y1 y2) (laws_eqInt64SS.l0 (k + 1) y0 y1 y2))
 | 0 => fun _ _ _ r h => by simp [laws_eqInt64SS.l0] at h
 | k + 1 => by
  have ih0 := laws_eqInt64SS.mono_l k
  ·intro y0 y1 y2
   unfold laws_eqInt64SS.l0
   repeat' first
   | (with_reducible exact ih0 _ _ _)
   | (with_reducible exact laws_eqInt64S.mono _ _ _)
   | (with_reducible exact LeO.refl _)
   | (with_reducible exact LeO.none _)
   | (with_reducible refine LeO.ite ?_ ?_)
   | (with_reducible refine LeO.bind ?_ (fun _ => ?_))
   | exact ih0 _ _ _
   | exact laws_eqInt64S.mono _ _ _
   | exact LeO.none _
   | refine LeO.ite ?_ ?_
   | refine LeO.bind ?_ (fun _ => ?_)
theorem laws_eqInt64SS.mono : ∀ a0 a1 k, LeO (laws_eqInt64SS.f k a0 a1) (laws_eqInt64SS.f (k + 1) a0 a1) := by
 intro a0 a1 k
 have ih0 := laws_eqInt64SS.mono_l k
 unfold laws_eqInt64SS.f
 repeat' first
   | (with_reducible exact ih0 _ _ _)
   | (with_reducible exact laws_eqInt64S.mono _ _ _)
   | (with_reducible exact LeO.refl _)
   | (with_reducible exact LeO.none _)
   | (with_reducible refine LeO.ite ?_ ?_)
   | (with_reducible refine LeO.bind ?_ (fun _ => ?_))
   | exact ih0 _ _ _
   | exact laws_eqInt64S.mono _ _ _
   | exact LeO.none _
   | refine LeO.ite ?_ ?_
   | refine LeO.bind ?_ (fun _ => ?_)
set_option maxHeartbeats 8000000 in
set_option maxRecDepth 100000 in
theorem laws_eqInt64SS.calls (k : Nat) (A0 : Option Addr) (c0 : Nat) (l0 : List (List Int)) (A1 : Option Addr) (c1 : Nat) (l1 : List (List Int)) (r : Bool) (w : World) (hr0 : Kd.C (Kd.slice 2 (Kd.int .i64)) w A0 l0.length l0) (hc0 : l0.length ≤ c0) (hr1 : Kd.C (Kd.slice 2 (Kd.int .i64)) w A1 l1.length l1) (hc1 : l1.length ≤ c1) (h : laws_eqInt64SS.f k l0 l1 = some r) :
  Calls Tryd.prog 33 #[.slice A0 l0.length c0, .slice A1 l1.length c1] w fun e w' => e = .returned (.bool r) ∧ Drawn0 w w' := by
 have HR0 := Aside0.mk hr0
 have HC0 := Aside0.mk hc0
 clear hr0 hc0
 have HR1 := Aside0.mk hr1
 have HC1 := Aside0.mk hc1
 clear hr1 hc1
 have H : (if (l0.length : Int) = (l1.length : Int) then (laws_eqInt64SS.l0 k l0 l1 0) else (some false)) = some r := h
 clear h
 by_cases c3 : (l0.length : Int) = (l1.length : Int)
 ·rw [if_pos c3] at H
  have c3b0 : ((l0.length : Int) == (l1.length : Int)) = true := beq_iff_eq.mpr c3
  have c3b1 : ((l0.length : Int) != (l1.length : Int)) = false := bne_eq_false_iff_eq.mpr c3
  have c3b2 : (l0.length == l1.length) = true := by first | simpa using c3 | (simp at c3 ⊢; omega)
  clear c3
  have H' := Aside0.mk H
  clear H
  go_enter Tryd.func33, Tryd.ntmps33
  go_wp2
  repeat (go_quiet (fail); try go_wp2)
  go_loopg [5] k (fun kq v5 w' => ∃ (x5_1 : Int), v5 = .int .i64 x5_1 ∧ Aside0 (laws_eqInt64SS.l0 kq l0 l1 x5_1 = some r) ∧ Aside0 (kq ≤ k) ∧ Drawn0 w w')
  case atStart => exact ⟨(0), (by first | rfl | (simp; done) | (simp [*]; done) | (simp [wrap64]; done)), H', ⟨Nat.le_refl _⟩, by repeat (first | exact Drawn0.refl _ | apply Drawn0.step)⟩
  case round =>
   clear H'
   try clear c1
   try clear p2
   try clear c3
   try clear c3b0
   try clear c3b1
   try clear c3b2
   obtain ⟨x5_1, rfl, HA, HK1, ⟨m1, rfl⟩⟩ := hrel
   cases gk with
   | zero => exact absurd HA.out (by simp [laws_eqInt64SS.l0])
   | succ k1 =>
    have H := HA.out
    clear HA
    simp only [laws_eqInt64SS.l0] at H
    by_cases c4 : x5_1 < (l0.length : Int)
    ·rw [if_pos c4] at H
     have c4b0 : decide (x5_1 < (l0.length : Int)) = true := decide_eq_true c4
     clear c4
     by_cases c5 : 0 ≤ x5_1
     ·rw [if_pos c5] at H
      have c5b0 : decide (0 ≤ x5_1) = true := decide_eq_true c5
      clear c5
      by_cases c6 : x5_1 < (l1.length : Int)
      ·rw [if_pos c6] at H
       have c6b0 : decide (x5_1 < (l1.length : Int)) = true := decide_eq_true c6
       clear c6
       replace H := Option.bind_eq_some_iff.mp H
       obtain ⟨t126, A70, H⟩ := H
       replace H : (if t126 = true then (laws_eqInt64SS.l0 k1 l0 l1 (wrap64 (x5_1 + 1))) else (some false)) = some r := H
       have A7 := Aside0.mk A70
       clear A70
       by_cases c8 : t126 = true
       ·subst c8
        have H1 : (laws_eqInt64SS.l0 k1 l0 l1 (wrap64 (x5_1 + 1))) = some r := by rw [if_pos rfl] at H; exact H
        clear H
        have H := H1
        clear H1
        have H' := Aside0.mk H
        clear H
        have p124 : 0 ≤ (x5_1 : Int) := of_decide_eq_true (by first | (with_reducible assumption) | assumption)
        have q124 : x5_1 < (l0.length : Int) := of_decide_eq_true (by first | (with_reducible assumption) | assumption)
        obtain ⟨ad124, A124_0, c124_0, e124, hx124_0, hl124_0, hi124_0⟩ := at_L2 HR0.out x5_1 p124 q124
        cases e124
        have HR124_0 := Aside0.mk hi124_0
        have HC124_0 := Aside0.mk hl124_0
        clear hi124_0 hl124_0
        replace p124 := eq_true p124
        replace q124 := eq_true q124
        have p125 : 0 ≤ (x5_1 : Int) := of_decide_eq_true (by first | (with_reducible assumption) | assumption)
        have q125 : x5_1 < (l1.length : Int) := of_decide_eq_true (by first | (with_reducible assumption) | assumption)
        obtain ⟨ad125, A125_0, c125_0, e125, hx125_0, hl125_0, hi125_0⟩ := at_L2 HR1.out x5_1 p125 q125
        cases e125
        have HR125_0 := Aside0.mk hi125_0
        have HC125_0 := Aside0.mk hl125_0
        clear hi125_0 hl125_0
        replace p125 := eq_true p125
        replace q125 := eq_true q125
        go_wp2_with (first | (go_at_call 76; (with_reducible refine (laws_eqInt64S.calls k1 _ _ (rd_L2 l0 x5_1) _ _ (rd_L2 l1 x5_1) true _ ?side1 ?side2 ?side3 ?side4 A7.out).mono ?_); (case side1 => repeat (first | exact HR124_0.out | (with_reducible refine Kd.C_alloc ?_ _) | (with_reducible refine Kd.C_drewN ?_ _) | (with_reducible refine Kd.C_drew ?_))); (case side2 => exact HC124_0.out); (case side3 => repeat (first | exact HR125_0.out | (with_reducible refine Kd.C_alloc ?_ _) | (with_reducible refine Kd.C_drewN ?_ _) | (with_reducible refine Kd.C_drew ?_))); (case side4 => exact HC125_0.out); rintro e w' ⟨rfl, ⟨nd, rfl⟩⟩; (try first | exact ⟨rfl, _, World.drewN_drewN _ _ _⟩ | exact ⟨rfl, _, Eq.trans (World.drewN_drewN _ _ _) (congrArg (World.drewN _) (Nat.add_assoc _ _ _))⟩)))
        repeat (go_quiet (first | (go_at_call 76; (with_reducible refine (laws_eqInt64S.calls k1 _ _ (rd_L2 l0 x5_1) _ _ (rd_L2 l1 x5_1) true _ ?side1 ?side2 ?side3 ?side4 A7.out).mono ?_); (case side1 => repeat (first | exact HR124_0.out | (with_reducible refine Kd.C_alloc ?_ _) | (with_reducible refine Kd.C_drewN ?_ _) | (with_reducible refine Kd.C_drew ?_))); (case side2 => exact HC124_0.out); (case side3 => repeat (first | exact HR125_0.out | (with_reducible refine Kd.C_alloc ?_ _) | (with_reducible refine Kd.C_drewN ?_ _) | (with_reducible refine Kd.C_drew ?_))); (case side4 => exact HC125_0.out); rintro e w' ⟨rfl, ⟨nd, rfl⟩⟩; (try first | exact ⟨rfl, _, World.drewN_drewN _ _ _⟩ | exact ⟨rfl, _, Eq.trans (World.drewN_drewN _ _ _) (congrArg (World.drewN _) (Nat.add_assoc _ _ _))⟩))); try go_wp2_with (first | (go_at_call 76; (with_reducible refine (laws_eqInt64S.calls k1 _ _ (rd_L2 l0 x5_1) _ _ (rd_L2 l1 x5_1) true _ ?side1 ?side2 ?side3 ?side4 A7.out).mono ?_); (case side1 => repeat (first | exact HR124_0.out | (with_reducible refine Kd.C_alloc ?_ _) | (with_reducible refine Kd.C_drewN ?_ _) | (with_reducible refine Kd.C_drew ?_))); (case side2 => exact HC124_0.out); (case side3 => repeat (first | exact HR125_0.out | (with_reducible refine Kd.C_alloc ?_ _) | (with_reducible refine Kd.C_drewN ?_ _) | (with_reducible refine Kd.C_drew ?_))); (case side4 => exact HC125_0.out); rintro e w' ⟨rfl, ⟨nd, rfl⟩⟩; (try first | exact ⟨rfl, _, World.drewN_drewN _ _ _⟩ | exact ⟨rfl, _, Eq.trans (World.drewN_drewN _ _ _) (congrArg (World.drewN _) (Nat.add_assoc _ _ _))⟩))))
        go_roundg k1
        case measure => have := HK1.out; omega
        case rel => exact ⟨(wrap64 (x5_1 + 1)), (by first | rfl | (simp; done) | (simp [*]; done) | (simp [wrap64]; done)), H', ⟨by have := HK1.out; omega⟩, by repeat (first | exact Drawn0.refl _ | apply Drawn0.step)⟩
       ·replace c8 := Bool.eq_false_iff.mpr c8
        subst c8
        have H1 : (some false) = some r := by rw [if_neg (show ¬ (false = true) by decide)] at H; exact H
        clear H
        have H := H1
        clear H1
        obtain rfl := Option.some.inj H
        simp only [Option.some.injEq, Prod.mk.injEq] at H
        obtain ⟨rfl⟩ := H
        have p124 : 0 ≤ (x5_1 : Int) := of_decide_eq_true (by first | (with_reducible assumption) | assumption)
        have q124 : x5_1 < (l0.length : Int) := of_decide_eq_true (by first | (with_reducible assumption) | assumption)
        obtain ⟨ad124, A124_0, c124_0, e124, hx124_0, hl124_0, hi124_0⟩ := at_L2 HR0.out x5_1 p124 q124
        cases e124
        have HR124_0 := Aside0.mk hi124_0
        have HC124_0 := Aside0.mk hl124_0
        clear hi124_0 hl124_0
        replace p124 := eq_true p124
        replace q124 := eq_true q124
        have p125 : 0 ≤ (x5_1 : Int) := of_decide_eq_true (by first | (with_reducible assumption) | assumption)
        have q125 : x5_1 < (l1.length : Int) := of_decide_eq_true (by first | (with_reducible assumption) | assumption)
        obtain ⟨ad125, A125_0, c125_0, e125, hx125_0, hl125_0, hi125_0⟩ := at_L2 HR1.out x5_1 p125 q125
        cases e125
        have HR125_0 := Aside0.mk hi125_0
        have HC125_0 := Aside0.mk hl125_0
        clear hi125_0 hl125_0
        replace p125 := eq_true p125
        replace q125 := eq_true q125
        go_wp2_with (first | (go_at_call 76; (with_reducible refine (laws_eqInt64S.calls k1 _ _ (rd_L2 l0 x5_1) _ _ (rd_L2 l1 x5_1) false _ ?side1 ?side2 ?side3 ?side4 A7.out).mono ?_); (case side1 => repeat (first | exact HR124_0.out | (with_reducible refine Kd.C_alloc ?_ _) | (with_reducible refine Kd.C_drewN ?_ _) | (with_reducible refine Kd.C_drew ?_))); (case side2 => exact HC124_0.out); (case side3 => repeat (first | exact HR125_0.out | (with_reducible refine Kd.C_alloc ?_ _) | (with_reducible refine Kd.C_drewN ?_ _) | (with_reducible refine Kd.C_drew ?_))); (case side4 => exact HC125_0.out); rintro e w' ⟨rfl, ⟨nd, rfl⟩⟩; (try first | exact ⟨rfl, _, World.drewN_drewN _ _ _⟩ | exact ⟨rfl, _, Eq.trans (World.drewN_drewN _ _ _) (congrArg (World.drewN _) (Nat.add_assoc _ _ _))⟩)))
        repeat (go_quiet (first | (go_at_call 76; (with_reducible refine (laws_eqInt64S.calls k1 _ _ (rd_L2 l0 x5_1) _ _ (rd_L2 l1 x5_1) false _ ?side1 ?side2 ?side3 ?side4 A7.out).mono ?_); (case side1 => repeat (first | exact HR124_0.out | (with_reducible refine Kd.C_alloc ?_ _) | (with_reducible refine Kd.C_drewN ?_ _) | (with_reducible refine Kd.C_drew ?_))); (case side2 => exact HC124_0.out); (case side3 => repeat (first | exact HR125_0.out | (with_reducible refine Kd.C_alloc ?_ _) | (with_reducible refine Kd.C_drewN ?_ _) | (with_reducible refine Kd.C_drew ?_))); (case side4 => exact HC125_0.out); rintro e w' ⟨rfl, ⟨nd, rfl⟩⟩; (try first | exact ⟨rfl, _, World.drewN_drewN _ _ _⟩ | exact ⟨rfl, _, Eq.trans (World.drewN_drewN _ _ _) (congrArg (World.drewN _) (Nat.add_assoc _ _ _))⟩))); try go_wp2_with (first | (go_at_call 76; (with_reducible refine (laws_eqInt64S.calls k1 _ _ (rd_L2 l0 x5_1) _ _ (rd_L2 l1 x5_1) false _ ?side1 ?side2 ?side3 ?side4 A7.out).mono ?_); (case side1 => repeat (first | exact HR124_0.out | (with_reducible refine Kd.C_alloc ?_ _) | (with_reducible refine Kd.C_drewN ?_ _) | (with_reducible refine Kd.C_drew ?_))); (case side2 => exact HC124_0.out); (case side3 => repeat (first | exact HR125_0.out | (with_reducible refine Kd.C_alloc ?_ _) | (with_reducible refine Kd.C_drewN ?_ _) | (with_reducible refine Kd.C_drew ?_))); (case side4 => exact HC125_0.out); rintro e w' ⟨rfl, ⟨nd, rfl⟩⟩; (try first | exact ⟨rfl, _, World.drewN_drewN _ _ _⟩ | exact ⟨rfl, _, Eq.trans (World.drewN_drewN _ _ _) (congrArg (World.drewN _) (Nat.add_assoc _ _ _))⟩))))
        go_ret
        exact ⟨by first | rfl | (simp; done) | (simp [*]; done) | (simp [wrap64]; done), by repeat (first | exact Drawn0.refl _ | apply Drawn0.step)⟩
      ·rw [if_neg c6] at H
       exact absurd H (by simp)
     ·rw [if_neg c5] at H
      exact absurd H (by simp)
    ·rw [if_neg c4] at H
     have c4b0 : decide (x5_1 < (l0.length : Int)) = false := decide_eq_false c4
     clear c4
     obtain rfl := Option.some.inj H
     simp only [Option.some.injEq, Prod.mk.injEq] at H
     obtain ⟨rfl⟩ := H
     go_wp2
     repeat (go_quiet (fail); try go_wp2)
     go_ret
     exact ⟨by first | rfl | (simp; done) | (simp [*]; done) | (simp [wrap64]; done), by repeat (first | exact Drawn0.refl _ | apply Drawn0.step)⟩
 ·rw [if_neg c3] at H
  have c3b0 : ((l0.length : Int) == (l1.length : Int)) = false := beq_eq_false_iff_ne.mpr c3
  have c3b1 : ((l0.length : Int) != (l1.length : Int)) = true := bne_iff_ne.mpr c3
  have c3b2 : (l0.length == l1.length) = false := by first | simpa using c3 | (simp at c3 ⊢; omega)
  obtain rfl := Option.some.inj H
  simp only [Option.some.injEq, Prod.mk.injEq] at H
  obtain ⟨rfl⟩ := H
  go_enter Tryd.func33, Tryd.ntmps33
  go_wp2
  repeat (go_quiet (fail); try go_wp2)
  go_ret
  exact ⟨by first | rfl | (simp; done) | (simp [*]; done) | (simp [wrap64]; done), by repeat (first | exact Drawn0.refl _ | apply Drawn0.step)⟩
end Go.Proofs.YtnjdkhnepmmfgaaDoor.PT3
namespace Go.Proofs.YtnjdkhnepmmfgaaDoor.PT3
open Go.RowKit Go.Proofs.YtnjdkhnepmmfgaaDoorW.PrintWords Go.Proofs.YtnjdkhnepmmfgaaDoorW.PrintLast Go.Proofs.YtnjdkhnepmmfgaaDoorW.PrintMore PL1 Rw
attribute [local go_sem] max2_int min2_int max_two min_two max_three min_three max_four min_four   -- for this text's walks alone
set_option linter.unusedVariables false
set_option linter.unusedSimpArgs false
end Go.Proofs.YtnjdkhnepmmfgaaDoor.PT3
namespace Go.Proofs.YtnjdkhnepmmfgaaDoor.PureRel
set_option linter.unusedVariables false
set_option linter.unusedSimpArgs false
open Go.RowKit Go.Proofs.YtnjdkhnepmmfgaaDoorW.PrintWords Go.Proofs.YtnjdkhnepmmfgaaDoorW.PrintLast Go.Proofs.YtnjdkhnepmmfgaaDoorW.PrintMore PL1 Rw PT3 Go.Proofs.YtnjdkhnepmmfgaaDoor.Pure
/-! ### copies -/
theorem toBool_ev (xs : List Bool) (h : xs.length ≤ 281474976710656) : Ev (fun k => laws_toBoolS.f k xs) xs := by
 have key := ev_copy (fun k ys i => laws_toBoolS.l0 k xs ys i) xs false
  (fun ys hy => ev_const (fun k => by simp [laws_toBoolS.l0]))
  (fun i hi ys r hy H => ev_step (fun k => by
   simp only [laws_toBoolS.l0]
   rw [if_pos (by omega), if_pos (by omega), if_pos (by omega), rdOf_nat false xs i hi, wrap_up (by omega), Int.toNat_natCast]) H)
 exact Ev.congr (fun k => by unfold laws_toBoolS.f; rw [if_pos (by omega), if_pos (by simpa using h)]; simp) key
theorem row_nat (xs : List (List Int)) (i : Nat) (h : i < xs.length) : Go.Proofs.YtnjdkhnepmmfgaaDoor.PT3.rd_L2 xs (i : Int) = xs[i] := getD_nat _ _ _ h
theorem toRows_is (xs : List (List Int)) (h : xs.length ≤ 1048576) (hs : ∀ r ∈ xs, r.length ≤ 1048576) : laws_toInt64SS.f xs = some xs := by
 unfold laws_toInt64SS.f
 rw [if_pos ⟨h, hs⟩]
theorem toRel_ev (s t : Int) (a : List Bool) (b : List (List Int)) (ha : a.length ≤ 1048576) (hb : b.length ≤ 1048576) (hs : ∀ r ∈ b, r.length ≤ 1048576) : Ev (fun k => laws_toRelation.f k s t a b) (s, t, a, b) :=
 ev_call (toBool_ev a (by omega)) (f := fun k x => (laws_toInt64SS.f b).bind fun y => some (s, t, x, y)) (ev_some (toRows_is b hb hs) (f := fun k y => some (s, t, a, y)) (Ev.now _) (fun _ => rfl)) (fun _ => rfl)
/-! ### equal -/
theorem eqBool_ev (a : List Bool) (h : a.length ≤ 1048576) : Ev (fun k => laws_eqBoolS.f k a a) true := by
 have key := ev_up (fun k i (_ : Unit) => laws_eqBoolS.l0 k a a i) a.length (fun _ => ()) true (ev_const (fun k => by simp [laws_eqBoolS.l0]))
  (fun i hi H => ev_step (fun k => by
   simp only [laws_eqBoolS.l0]
   rw [if_pos (by omega), if_pos (by omega), if_pos (by omega), if_neg (by simp), wrap_up (by omega)]) H)
 exact Ev.congr (fun k => by simp [laws_eqBoolS.f]) key
theorem eqLongs_ev (a : List Int) (h : a.length ≤ 1048576) : Ev (fun k => laws_eqInt64S.f k a a) true := by
 have key := ev_up (fun k i (_ : Unit) => laws_eqInt64S.l0 k a a i) a.length (fun _ => ()) true (ev_const (fun k => by simp [laws_eqInt64S.l0]))
  (fun i hi H => ev_step (fun k => by
   simp only [laws_eqInt64S.l0]
   rw [if_pos (by omega), if_pos (by omega), if_pos (by omega), if_pos trivial, wrap_up (by omega)]) H)
 exact Ev.congr (fun k => by simp [laws_eqInt64S.f]) key
theorem eqRows_ev (a : List (List Int)) (h : a.length ≤ 1048576) (hs : ∀ r ∈ a, r.length ≤ 1048576) : Ev (fun k => laws_eqInt64SS.f k a a) true := by
 have key := ev_up (fun k i (_ : Unit) => laws_eqInt64SS.l0 k a a i) a.length (fun _ => ()) true (ev_const (fun k => by simp [laws_eqInt64SS.l0]))
  (fun i hi H => by
   refine ev_step (f := fun k => (laws_eqInt64S.f k a[i] a[i]).bind fun t => if t = true then laws_eqInt64SS.l0 k a a ((i : Int) + 1) else some false) (fun k => ?_) (Ev.bind (eqLongs_ev a[i] (hs _ (List.getElem_mem hi))) (ev_ift rfl H))
   simp only [laws_eqInt64SS.l0]
   rw [if_pos (by omega), if_pos (by omega), if_pos (by omega), row_nat a i hi, wrap_up (by omega)])
 exact Ev.congr (fun k => by simp [laws_eqInt64SS.f]) key
/-! ### sizes -/
theorem szLongs_is (x : List Int) (m : Int) (h0 : 0 ≤ m) (hm : m ≤ 1048576) (hx : x.length ≤ 9223372036854775807) : ∃ v, laws_szInt64S.f x m = some v ∧ v ≤ m ∧ (0 ≤ v → x.length ≤ 1048576 ∧ v = m - x.length) := by
 have w1 : wrap64 (m - x.length) = m - x.length := wrap_id (by omega) (by omega)
 unfold laws_szInt64S.f
 rw [w1]
 by_cases q : m - (x.length : Int) < 0
 ·rw [if_pos q]; exact ⟨-1, rfl, by omega, fun h => absurd h (by omega)⟩
 ·rw [if_neg q]; exact ⟨_, rfl, by omega, fun _ => ⟨by omega, rfl⟩⟩
theorem szRows_ev (c : List (List Int)) (n : Int) (h0 : 0 ≤ n) (hn : n ≤ 1048576) (hl : c.length ≤ 9223372036854775807) (hs : ∀ x ∈ c, x.length ≤ 9223372036854775807) :
  ∃ r, Ev (fun k => laws_szInt64SS.f k c n) r ∧ r ≤ n ∧ (0 ≤ r → c.length ≤ 1048576 ∧ (∀ x ∈ c, x.length ≤ 1048576) ∧ (c.map List.length).sum ≤ 1048576) := by
 have hw : wrap64 (n - c.length) = n - c.length := wrap_id (by omega) (by omega)
 by_cases hlt : n - c.length < 0
 ·exact ⟨-1, Ev.congr (fun k => by unfold laws_szInt64SS.f; rw [hw, if_pos hlt]) (Ev.now _), by omega, fun h => absurd h (by omega)⟩
 ·have key : ∀ d i (m : Int), d + i = c.length → 0 ≤ m → m ≤ n - c.length → ∃ r, Ev (fun k => laws_szInt64SS.l0 k c m (i : Int)) r ∧ r ≤ n ∧ (0 ≤ r → (∀ j, i ≤ j → (h : j < c.length) → c[j].length ≤ 1048576) ∧ (((c.drop i).map List.length).sum : Int) ≤ m) := by
   intro d
   induction d with
   | zero => intro i m hi h0 hm; exact ⟨m, ev_const (fun k => by simp only [laws_szInt64SS.l0]; rw [if_neg (by omega)]), by omega, fun _ => ⟨fun j h1 h2 => by omega, by rw [List.drop_of_length_le (by omega)]; simpa using h0⟩⟩
   | succ d ih =>
    intro i m hi h0 hm
    have hi' : i < c.length := by omega
    obtain ⟨v, hv, hvm, hvl⟩ := szLongs_is c[i] m h0 (by omega) (hs _ (List.getElem_mem hi'))
    by_cases q : v < 0
    ·exact ⟨-1, ev_const (fun k => by
      simp only [laws_szInt64SS.l0]
      rw [if_pos (by omega), if_pos (by omega), row_nat c i hi', hv, Option.bind_some, if_pos q]), by omega, fun h => absurd h (by omega)⟩
    ·obtain ⟨r, hr, hrn, hrl⟩ := ih (i + 1) v (by omega) (by omega) (by omega)
     refine ⟨r, ev_step (fun k => ?_) hr, hrn, fun h => ⟨fun j h1 h2 => ?_, ?_⟩⟩
     ·simp only [laws_szInt64SS.l0]
      rw [if_pos (by omega), if_pos (by omega), row_nat c i hi', hv, Option.bind_some, if_neg q, wrap_up (by omega)]
      simp
     ·by_cases e : j = i
      ·subst e; exact (hvl (by omega)).1
      ·exact (hrl h).1 j (by omega) h2
     ·have h5 := (hrl h).2
      have h6 := (hvl (by omega)).2
      rw [List.drop_eq_getElem_cons hi', List.map_cons, List.sum_cons]
      omega
  obtain ⟨r, hr, hrn, hrl⟩ := key c.length 0 _ (by omega) (by omega) (Int.le_refl _)
  refine ⟨r, Ev.congr (fun k => ?_) hr, hrn, fun h => ⟨by omega, fun x hx => ?_, by have := (hrl h).2; rw [List.drop_zero] at this; omega⟩⟩
  ·unfold laws_szInt64SS.f
   rw [hw, if_neg hlt]
   rfl
  ·obtain ⟨j, hj, rfl⟩ := List.mem_iff_getElem.1 hx
   exact (hrl h).1 j (by omega) hj
theorem szRel_ev (s t : Int) (a : List Bool) (c : List (List Int)) (n : Int) (h0 : 0 ≤ n) (hn : n ≤ 1048576) (ha : a.length ≤ 9223372036854775807) (hl : c.length ≤ 9223372036854775807) (hs : ∀ x ∈ c, x.length ≤ 9223372036854775807) :
  ∃ r, Ev (fun k => laws_szRelation.f k s t a c n) r ∧ (0 ≤ r → a.length ≤ 1048576 ∧ c.length ≤ 1048576 ∧ (∀ x ∈ c, x.length ≤ 1048576) ∧ (c.map List.length).sum ≤ 1048576) := by
 have w1 : wrap64 (n - a.length) = n - a.length := wrap_id (by omega) (by omega)
 unfold laws_szRelation.f laws_szBoolS.f
 rw [w1]
 by_cases q : n - (a.length : Int) < 0
 ·exact ⟨-1, Ev.congr (fun k => by rw [if_pos q, Option.bind_some, if_pos (by decide)]) (Ev.now _), fun h => absurd h (by omega)⟩
 ·obtain ⟨r, hr, hrn, hrl⟩ := szRows_ev c (n - a.length) (by omega) (by omega) hl hs
  by_cases q2 : r < 0
  ·refine ⟨-1, Ev.congr (f := fun k => (laws_szInt64SS.f k c (n - a.length)).bind fun t => if t < 0 then some (-1) else some t) (fun k => by rw [if_neg q, Option.bind_some, if_neg q]) ?_, fun h => absurd h (by omega)⟩
   exact Ev.bind hr (ev_ift q2 (Ev.now _))
  ·refine ⟨r, Ev.congr (f := fun k => (laws_szInt64SS.f k c (n - a.length)).bind fun t => if t < 0 then some (-1) else some t) (fun k => by rw [if_neg q, Option.bind_some, if_neg q]) ?_, fun h => ⟨by omega, hrl h⟩⟩
   exact Ev.bind hr (ev_iff q2 (Ev.now _))
end Go.Proofs.YtnjdkhnepmmfgaaDoor.PureRel
namespace Go.Proofs.YtnjdkhnepmmfgaaDoor.Lr
set_option linter.unusedVariables false
set_option linter.unusedSimpArgs false
open Go.RowKit Go.Proofs.YtnjdkhnepmmfgaaDoorW.PrintWords Go.Proofs.YtnjdkhnepmmfgaaDoorW.PrintLast Go.Proofs.YtnjdkhnepmmfgaaDoorW.PrintMore Kp PT3 Go.Proofs.YtnjdkhnepmmfgaaDoor.Pure PureRel Rw
/-- What a relation's cells hold, as arguments. -/
structure Arg (w : World) (A2 : Option Addr) (c2 : Nat) (a : List Bool) (A3 : Option Addr) (c3 : Nat) (b : List (List Int)) : Prop where
 r2 : Kd.C Kd.bool w A2 a.length a
 l2 : a.length ≤ c2
 r3 : Kd.C (Kd.slice 2 (Kd.int .i64)) w A3 b.length b
 l3 : b.length ≤ c3
/-- Sizes that a law lets in. -/
structure Small (a : List Bool) (b : List (List Int)) : Prop where
 la : a.length ≤ 1048576
 lb : b.length ≤ 1048576
 lr : ∀ r ∈ b, r.length ≤ 1048576
section
variable {w w' : World} {A2 : Option Addr} {c2 : Nat} {a : List Bool} {A3 : Option Addr} {c3 : Nat} {b : List (List Int)}
theorem Arg.below (h : Arg w A2 c2 a A3 c3 b) (hb : Below w.heap.size w w') : Arg w' A2 c2 a A3 c3 b := ⟨Kd.C_below h.r2 hb, h.l2, Kd.C_below h.r3 hb, h.l3⟩
end
/-- The reference's test of a relation. -/
theorem ok_spec (gp : Nat) (t s : Int) (A2 : Option Addr) (c2 : Nat) (a : List Bool) (A3 : Option Addr) (c3 : Nat) (b : List (List Int)) (w : World) (hP : w.heap[gp]? = some (.cells #[.int .i64 t, .int .i64 s, .slice A2 a.length c2, .slice A3 b.length c3] 27 (0, 0))) (hA : Arg w A2 c2 a A3 c3 b) (hS : Small a b) :
  Calls Tryd.prog 65 #[.pointer (some ⟨gp, 0, none⟩)] w fun e w' => e = .returned (.bool (okR t s a b)) ∧ Below w.heap.size w w' := by
 have hgp := blk_lt hP
 have m0 : w.cell? ⟨gp, 0, none⟩ = some (.int .i64 t) := (blk_cell hP 0).trans rfl
 have m1 : w.cell? ⟨gp, 1, none⟩ = some (.int .i64 s) := (blk_cell hP 1).trans rfl
 have m2 : w.cell? ⟨gp, 2, none⟩ = some (.slice A2 a.length c2) := (blk_cell hP 2).trans rfl
 have m3 : w.cell? ⟨gp, 3, none⟩ = some (.slice A3 b.length c3) := (blk_cell hP 3).trans rfl
 by_cases h : a.length ≤ 150
 ·have h1 : ((a.length : Int) ≤ 150) = True := eq_true (by omega)
  have hr : okR t s a b = okF t s a b := by unfold okR; rw [decide_eq_true h, Bool.true_and]
  rw [hr]
  clear hr
  go_enter Tryd.func65, Tryd.ntmps65
  go_wp2_with (go_at_call 96; go_loud (
   with_reducible refine (form gp t s A2 c2 a A3 c3 b _ hP hA.r3 hA.l3 hS.la hS.lb hS.lr).mono ?_
   rintro e w1 ⟨rfl, hb1⟩))
  go_ret
  exact ⟨rfl, hb1⟩
 ·have h1 : ((a.length : Int) ≤ 150) = False := eq_false (by omega)
  have hr : okR t s a b = false := by unfold okR; rw [decide_eq_false h, Bool.false_and]
  rw [hr]
  go_enter Tryd.func65, Tryd.ntmps65
  go_wp2_with fail
  go_ret
  exact ⟨rfl, Below.refl _ _⟩
/-- The code of a relation that should have two tapes. -/
def twoC (t s : Int) (a : List Bool) (b : List (List Int)) : Int := if okR t s a b = true then (if t = 2 then 0 else 2) else 1
theorem two_spec (gp : Nat) (t s : Int) (A2 : Option Addr) (c2 : Nat) (a : List Bool) (A3 : Option Addr) (c3 : Nat) (b : List (List Int)) (w : World) (hP : w.heap[gp]? = some (.cells #[.int .i64 t, .int .i64 s, .slice A2 a.length c2, .slice A3 b.length c3] 27 (0, 0))) (hA : Arg w A2 c2 a A3 c3 b) (hS : Small a b) :
  Calls Tryd.prog 38 #[.pointer (some ⟨gp, 0, none⟩)] w fun e w' => e = .returned (.int .i64 (twoC t s a b)) ∧ Below w.heap.size w w' := by
 have hgp := blk_lt hP
 have hc := Aside0.mk (ok_spec gp t s A2 c2 a A3 c3 b w hP hA hS)
 have m0 : w.cell? ⟨gp, 0, none⟩ = some (.int .i64 t) := (blk_cell hP 0).trans rfl
 have m1 : w.cell? ⟨gp, 1, none⟩ = some (.int .i64 s) := (blk_cell hP 1).trans rfl
 have m2 : w.cell? ⟨gp, 2, none⟩ = some (.slice A2 a.length c2) := (blk_cell hP 2).trans rfl
 have m3 : w.cell? ⟨gp, 3, none⟩ = some (.slice A3 b.length c3) := (blk_cell hP 3).trans rfl
 unfold twoC
 cases ho : okR t s a b with
 | false =>
  rw [if_neg (by simp)]
  rw [ho] at hc
  clear ho
  go_enter Tryd.func38, Tryd.ntmps38
  go_wp2_with (go_at_call 65; go_loud (
   with_reducible refine hc.out.mono ?_
   rintro e w1 ⟨rfl, hb1⟩))
  go_ret
  exact ⟨rfl, hb1⟩
 | true =>
  rw [if_pos rfl]
  rw [ho] at hc
  clear ho
  by_cases h : t = 2
  ·subst h
   rw [if_pos rfl]
   go_enter Tryd.func38, Tryd.ntmps38
   go_wp2_with (go_at_call 65; go_loud (
    with_reducible refine hc.out.mono ?_
    rintro e w1 ⟨rfl, hb1⟩
    have k0 := at_cell hb1 m0))
   go_ret
   exact ⟨rfl, hb1⟩
  ·rw [if_neg h]
   have h1 : (t = 2) = False := eq_false h
   have h2 : (t == 2) = false := beq_eq_false_iff_ne.mpr h
   have h3 : (t != 2) = true := bne_iff_ne.mpr h
   clear h
   go_enter Tryd.func38, Tryd.ntmps38
   go_wp2_with (go_at_call 65; go_loud (
    with_reducible refine hc.out.mono ?_
    rintro e w1 ⟨rfl, hb1⟩
    have k0 := at_cell hb1 m0))
   go_ret
   exact ⟨rfl, hb1⟩
set_option maxHeartbeats 2000000 in
/-- The program's code of one relation that should have two tapes. -/
theorem pairs_one (g : Nat) (t s : Int) (A2 : Option Addr) (c2 : Nat) (a : List Bool) (A3 : Option Addr) (c3 : Nat) (b : List (List Int)) (w : World) (hP : w.heap[g]? = some (.cells #[.int .i64 t, .int .i64 s, .slice A2 a.length c2, .slice A3 b.length c3] 27 (0, 0))) (hA : Arg w A2 c2 a A3 c3 b) (hS : Small a b) :
  Calls Tryd.prog 41 #[.slice (some ⟨g, 0, none⟩) 1 1] w fun e w' => e = .returned (.int .i64 (twoC t s a b)) ∧ Below w.heap.size w w' := by
 have hgp := blk_lt hP
 have m0 : w.cell? ⟨g, 0, none⟩ = some (.int .i64 t) := (blk_cell hP 0).trans rfl
 have m1 : w.cell? ⟨g, 1, none⟩ = some (.int .i64 s) := (blk_cell hP 1).trans rfl
 have m2 : w.cell? ⟨g, 2, none⟩ = some (.slice A2 a.length c2) := (blk_cell hP 2).trans rfl
 have m3 : w.cell? ⟨g, 3, none⟩ = some (.slice A3 b.length c3) := (blk_cell hP 3).trans rfl
 have hv : Aside0 (∀ W, Below w.heap.size w W → Calls Tryd.prog 70 #[.agg #[.int .i64 t, .int .i64 s, .slice A2 a.length c2, .slice A3 b.length c3]] W fun e w' => e = .returned (.bool (okR t s a b)) ∧ Below W.heap.size W w') := ⟨fun W hb => valid t s A2 c2 a A3 c3 b W (hA.below hb).r3 hA.l3 hS.la hS.lb hS.lr⟩
 unfold twoC
 cases ho' : okR t s a b with
 | false =>
  have ho := Aside0.mk ho'
  clear ho'
  rw [if_neg (by simp)]
  go_enter Tryd.func41, Tryd.ntmps41
  go_wp2_with fail
  go_loopg [9] 1 (fun kq v9 W => v9 = .int .i64 0 ∧ W = w)
  case atStart => exact ⟨rfl, rfl⟩
  case round =>
   obtain ⟨rfl, rfl⟩ := hrel
   go_wp2_with (go_at_call 70; go_loud (
    with_reducible refine (hv.out _ (by repeat (first | exact Below.refl _ _ | apply below_alloc | (refine Below.setCell ?_ (by simp) _)))).mono ?_
    rintro e w1 ⟨he, hb1⟩
    rw [ho.out] at he
    subst he
    have hB1 : Below wr.heap.size wr w1 := below_step (by repeat (first | exact Below.refl _ _ | apply below_alloc | (refine Below.setCell ?_ (by simp) _))) hb1))
   go_ret
   exact ⟨rfl, hB1⟩
 | true =>
  have ho := Aside0.mk ho'
  clear ho'
  rw [if_pos rfl]
  have hw1 : wrap64 (0 + 1) = 1 := by unfold wrap64; decide
  by_cases h : t = 2
  ·rw [if_pos h]
   have h1 : (t = 2) = True := eq_true h
   have h2 : (t == 2) = true := by simp [h]
   have h3 : (t != 2) = false := by simp [h]
   clear h
   go_enter Tryd.func41, Tryd.ntmps41
   go_wp2_with fail
   go_loopg [9] 2 (fun kq v9 W => (v9 = .int .i64 0 ∧ Aside0 (kq = 2) ∧ W = w) ∨ (v9 = .int .i64 1 ∧ Aside0 (kq = 1) ∧ Aside0 (Below w.heap.size w W)))
   case atStart => exact .inl ⟨rfl, ⟨rfl⟩, rfl⟩
   case round =>
    rcases hrel with ⟨rfl, hk, rfl⟩ | ⟨rfl, hk, hb0⟩
    ·go_wp2_with (go_at_call 70; go_loud (
      with_reducible refine (hv.out _ (by repeat (first | exact Below.refl _ _ | apply below_alloc | (refine Below.setCell ?_ (by simp) _)))).mono ?_
      rintro e w1 ⟨he, hb1⟩
      rw [ho.out] at he
      subst he
      have hB1 : Below wr.heap.size wr w1 := below_step (by repeat (first | exact Below.refl _ _ | apply below_alloc | (refine Below.setCell ?_ (by simp) _))) hb1))
     go_roundg 1
     case measure => have := hk.out; omega
     case rel => exact .inr ⟨(by first | rfl | go_num), ⟨rfl⟩, ⟨hB1⟩⟩
    ·have m0 := at_cell hb0.out m0
     have m1 := at_cell hb0.out m1
     have m2 := at_cell hb0.out m2
     have m3 := at_cell hb0.out m3
     go_wp2_with fail
     go_loopg [19] 2 (fun kq v19 W => (v19 = .int .i64 0 ∧ Aside0 (kq = 2) ∧ W = wr) ∨ (v19 = .int .i64 1 ∧ Aside0 (kq = 1) ∧ Aside0 (Below w.heap.size w W)))
     case atStart => exact .inl ⟨rfl, ⟨rfl⟩, rfl⟩
     case round =>
      rcases hrel with ⟨rfl, hk, rfl⟩ | ⟨rfl, hk, hb1⟩
      ·go_wp2_with fail
       go_roundg 1
       case measure => have := hk.out; omega
       case rel => exact .inr ⟨(by first | rfl | go_num), ⟨rfl⟩, ⟨by repeat (first | exact hb0.out | apply below_alloc | (refine Below.setCell ?_ (by have := Below.size hb0.out; simp <;> omega) _))⟩⟩
      ·go_wp2_with fail
       go_ret
       exact ⟨rfl, hb1.out⟩
  ·rw [if_neg h]
   have h1 : (t = 2) = False := eq_false h
   have h2 : (t == 2) = false := beq_eq_false_iff_ne.mpr h
   have h3 : (t != 2) = true := bne_iff_ne.mpr h
   clear h
   go_enter Tryd.func41, Tryd.ntmps41
   go_wp2_with fail
   go_loopg [9] 2 (fun kq v9 W => (v9 = .int .i64 0 ∧ Aside0 (kq = 2) ∧ W = w) ∨ (v9 = .int .i64 1 ∧ Aside0 (kq = 1) ∧ Aside0 (Below w.heap.size w W)))
   case atStart => exact .inl ⟨rfl, ⟨rfl⟩, rfl⟩
   case round =>
    rcases hrel with ⟨rfl, hk, rfl⟩ | ⟨rfl, hk, hb0⟩
    ·go_wp2_with (go_at_call 70; go_loud (
      with_reducible refine (hv.out _ (by repeat (first | exact Below.refl _ _ | apply below_alloc | (refine Below.setCell ?_ (by simp) _)))).mono ?_
      rintro e w1 ⟨he, hb1⟩
      rw [ho.out] at he
      subst he
      have hB1 : Below wr.heap.size wr w1 := below_step (by repeat (first | exact Below.refl _ _ | apply below_alloc | (refine Below.setCell ?_ (by simp) _))) hb1))
     go_roundg 1
     case measure => have := hk.out; omega
     case rel => exact .inr ⟨(by first | rfl | go_num), ⟨rfl⟩, ⟨hB1⟩⟩
    ·have m0 := at_cell hb0.out m0
     have m1 := at_cell hb0.out m1
     have m2 := at_cell hb0.out m2
     have m3 := at_cell hb0.out m3
     go_wp2_with fail
     go_loopg [19] 2 (fun kq v19 W => v19 = .int .i64 0 ∧ W = wr)
     case atStart => exact ⟨rfl, rfl⟩
     case round =>
      obtain ⟨rfl, rfl⟩ := hrel
      go_wp2_with fail
      go_ret
      exact ⟨rfl, by repeat (first | exact hb0.out | apply below_alloc | (refine Below.setCell ?_ (by have := Below.size hb0.out; simp <;> omega) _))⟩
/-- Two relations that hold the same are told equal. -/
theorem eq_same (t s : Int) (A2 : Option Addr) (c2 : Nat) (a : List Bool) (A3 : Option Addr) (c3 : Nat) (b : List (List Int)) (B2 : Option Addr) (d2 : Nat) (B3 : Option Addr) (d3 : Nat) (w : World) (hA : Arg w A2 c2 a A3 c3 b) (hB : Arg w B2 d2 a B3 d3 b) (hS : Small a b) :
  Calls Tryd.prog 10 #[.agg #[.int .i64 t, .int .i64 s, .slice A2 a.length c2, .slice A3 b.length c3], .agg #[.int .i64 t, .int .i64 s, .slice B2 a.length d2, .slice B3 b.length d3]] w fun e w' => e = .returned (.bool true) ∧ Below w.heap.size w w' := by
 obtain ⟨k1, hk1⟩ := (eqBool_ev a hS.la).rounds
 obtain ⟨k2, hk2⟩ := (eqRows_ev b hS.lb hS.lr).rounds
 have hk1 := Aside0.mk hk1
 have hk2 := Aside0.mk hk2
 have hb0 : Below w.heap.size w ((w.alloc (.cells #[.int .i64 t, .int .i64 s, .slice A2 a.length c2, .slice A3 b.length c3] 27)).alloc (.cells #[.int .i64 t, .int .i64 s, .slice B2 a.length d2, .slice B3 b.length d3] 27)) := below_alloc (below_alloc (Below.refl _ _) _) _
 have p3 : ((w.alloc (.cells #[.int .i64 t, .int .i64 s, .slice A2 a.length c2, .slice A3 b.length c3] 27)).alloc (.cells #[.int .i64 t, .int .i64 s, .slice B2 a.length d2, .slice B3 b.length d3] 27)).cell? ⟨w.heap.size, 3, none⟩ = some (.slice A3 b.length c3) := (blk_cell (blk_alloc (blk_new w (.cells #[.int .i64 t, .int .i64 s, .slice A2 a.length c2, .slice A3 b.length c3] 27)) _) 3).trans rfl
 have q3 : ((w.alloc (.cells #[.int .i64 t, .int .i64 s, .slice A2 a.length c2, .slice A3 b.length c3] 27)).alloc (.cells #[.int .i64 t, .int .i64 s, .slice B2 a.length d2, .slice B3 b.length d3] 27)).cell? ⟨w.heap.size + 1, 3, none⟩ = some (.slice B3 b.length d3) := (blk_cell (blk_at _ _ _ (by simp)) 3).trans rfl
 go_enter Tryd.func10, Tryd.ntmps10
 go_wp2_with (first
  | (go_at_call 32; go_loud (
    with_reducible refine (laws_eqBoolS.calls k1 _ _ a _ _ a true _ (Kd.C_below hA.r2 hb0) hA.l2 (Kd.C_below hB.r2 hb0) hB.l2 hk1.out).mono ?_
    rintro e w1 ⟨rfl, hd1⟩
    have hb1 := hd1.below
    have r3 := at_cell hb1 p3
    have s3 := at_cell hb1 q3
    have hB1 := below_step hb0 hb1))
  | (go_at_call 33; go_loud (
    with_reducible refine (laws_eqInt64SS.calls k2 _ _ b _ _ b true _ (Kd.C_below hA.r3 hB1) hA.l3 (Kd.C_below hB.r3 hB1) hB.l3 hk2.out).mono ?_
    rintro e w2 ⟨rfl, hd2⟩
    have hB2 := below_step hB1 hd2.below)))
 go_ret
 exact ⟨rfl, hB2⟩
end Go.Proofs.YtnjdkhnepmmfgaaDoor.Lr
namespace Go.Proofs.YtnjdkhnepmmfgaaDoor.Rt
set_option linter.unusedVariables false
open Go Go.RowKit Go.Proofs.YtnjdkhnepmmfgaaDoorW.PrintWords Go.Proofs.YtnjdkhnepmmfgaaDoorW.PrintLast Go.Proofs.YtnjdkhnepmmfgaaDoorW.PrintMore
section
variable {P : Program} {ops : Array Oper} {Q : Exit → Act → World → Prop} {md : Region.Mode} {S : World → Prop} {ds : List Nat}
theorem st {id : Nat} {a : Act} {w : World} (n : Nat) (S : World → Prop) (ds : List Nat) (hS : S w.drew) (h : S w.drew → wpAnyLast P .any ops Q S ds n (Array.replicate n false) a w.drew) (hm : P.follows .mixedOrders = true := by kernel_rfl) (hn : ops.size = n := by rfl) : (Code.region id ops true).wp P Q a w :=
 start_ _ hm hn rfl hS h
theorem pu (i N : Nat) {oi : Oper} {v : Value} {fuel : Nat} {l : Array Bool} {a a' : Act} {w : World} (h : wpAnyLast P md ops Q S ds fuel (l.setIfInBounds i true) a' w) (hi : ops[i]? = some oi := by rfl) (hN : oi.dst = some N := by rfl) (hc : anyB md ops l (l.setIfInBounds i true) i = true := by kernel_rfl) (hQ : ∀ c a w, Q (.panic c) (a.put oi.dst v) w → Q (.panic c) a w := by exact fun _ _ _ h => h)
  (hy : Yields P ops oi v a := by (refine Or.inl ⟨by rfl, ?_⟩; intro w'; go_simp; with_reducible rfl)) (ha : a.put (some N) v = a' := by (simp only [Act.put, Za, Zb, Zc, i64_w, i32_w]; rfl)) : wpAnyLast P md ops Q S ds (fuel + 1) l a w :=
 pure_ _ hi hN hc hQ hy ha h
theorem tk (i N : Nat) {oi : Oper} {v : Value} {fuel : Nat} {l : Array Bool} {a a' : Act} {w : World} (hS : S w) (h : wpAnyLast P md ops Q S ds fuel (l.setIfInBounds i true) a' w) (hi : ops[i]? = some oi := by rfl) (hN : oi.dst = some N := by rfl) (hc : takeB md ops ds l (l.setIfInBounds i true) i = true := by kernel_rfl) (hQ : ∀ c a w, Q (.panic c) (a.put oi.dst v) w → Q (.panic c) a w := by exact fun _ _ _ h => h)
  (hy : YieldsIf P ops S oi v a := by (refine Or.inl ⟨by rfl, ?_⟩; intro w' hs; (repeat (have hs0 := hs.1; replace hs := hs.2)); go_simp; with_reducible rfl)) (ha : a.put (some N) v = a' := by (simp only [Act.put, Za, Zb, Zc, i64_w, i32_w]; rfl)) : wpAnyLast P md ops Q S ds (fuel + 1) l a w :=
 take_ _ hi hN hc hQ hy hS ha h
theorem nm {fuel : Nat} {l : Array Bool} {a a' : Act} {w : World} (h : wpAnyLast P md ops Q S ds fuel l a' w) (ha : a = a' := by (simp only [Act.put, Za, Zb, Zc, i64_w, i32_w]; rfl)) : wpAnyLast P md ops Q S ds fuel l a w := norm_ ha h
theorem on (i N : Nat) {oi : Oper} {fuel : Nat} {l : Array Bool} {a : Act} {w : World}
  (h : ∀ K : Act → World → Prop, Shut (∀ a' w', S w' → (S w' → wpAnyLast P md ops Q S ds fuel (l.setIfInBounds i true) a' w') → K a' w') → if Region.wanted oi (yielded ops a.tmps) = true then Oper.wp P oi a w K Q else K (a.put (some N) undef) w) (hi : ops[i]? = some oi := by rfl) (hN : oi.dst = some N := by rfl) (hc : readyB md ops l (l.setIfInBounds i true) i = true := by kernel_rfl) (hd : i ∉ ds := by decide) :
  wpAnyLast P md ops Q S ds (fuel + 1) l a w := one_ _ hi hN hc hd h
theorem la (i : Nat) {oi : Oper} {fuel : Nat} {l : Array Bool} {a : Act} {w : World}
  (h : ∀ K : Act → World → Prop, Shut (∀ a' w', wpAnyLast P md ops Q S ds fuel (l.setIfInBounds i true) a' w' → K a' w') → if Region.wanted oi (yielded ops a.tmps) = true then Oper.wp P oi a w K Q else K (a.put none undef) w) (hi : ops[i]? = some oi := by rfl) (hN : oi.dst = none := by rfl) (hc : readyB md ops l (l.setIfInBounds i true) i = true := by kernel_rfl) (hd : i ∈ ds := by decide) :
  wpAnyLast P md ops Q S ds (fuel + 1) l a w := last_ _ hi hN hc hd h
theorem dn {l : Array Bool} {a : Act} {w : World} {n : Nat} (h : Q .normal a w) (hr : (Region.ready md ops l == []) = true := by kernel_rfl) : wpAnyLast P md ops Q S ds n l a w := done_ hr h
end
end Go.Proofs.YtnjdkhnepmmfgaaDoor.Rt
namespace Go.Proofs.YtnjdkhnepmmfgaaDoor.Mk
set_option linter.unusedVariables false
set_option linter.unusedSimpArgs false
open Go.RowKit Go.Proofs.YtnjdkhnepmmfgaaDoorW.PrintWords Go.Proofs.YtnjdkhnepmmfgaaDoorW.PrintLast Go.Proofs.YtnjdkhnepmmfgaaDoorW.PrintMore Kp Mg
abbrev Row : Kd (List Int) := Kd.slice 2 (Kd.int .i64)
/-- W is w but for blocks in S, all of them from n on, and what is new. -/
structure KeepS (n : Nat) (w W : World) (S : Nat → Prop) : Prop where
 le : n ≤ w.heap.size
 bel : Below n w W
 blk : ∀ k, k < w.heap.size → ¬ S k → W.heap[k]? = w.heap[k]?
section
variable {n : Nat} {w W W' : World} {S S' : Nat → Prop}
theorem KeepS.refl (w : World) (S : Nat → Prop) (h : n ≤ w.heap.size) : KeepS n w w S := ⟨h, Below.refl _ _, fun _ _ _ => rfl⟩
theorem KeepS.size (h : KeepS n w W S) : w.heap.size ≤ W.heap.size := Below.size h.bel
theorem KeepS.below (h : KeepS n w W S) (hb : Below W.heap.size W W') : KeepS n w W' S := ⟨h.le, h.bel.trans (hb.mono (Nat.le_trans h.le h.size)), fun k hk hs => (hb.block k (Nat.lt_of_lt_of_le hk h.size)).trans (h.blk k hk hs)⟩
theorem KeepS.trans {n' : Nat} (h : KeepS n w W S) (h' : KeepS n' W W' S') (hn : n ≤ n') (hs : ∀ k, S' k → S k ∨ w.heap.size ≤ k) : KeepS n w W' S :=
 ⟨h.le, h.bel.trans (h'.bel.mono hn), fun k hk hn => (h'.blk k (Nat.lt_of_lt_of_le hk h.size) (fun h2 => (hs k h2).elim hn (fun h3 => by omega))).trans (h.blk k hk hn)⟩
theorem KeepS.set (h : KeepS n w W S) {p : Addr} (hp : S p.block) (hq : n ≤ p.block) (u : Value) : KeepS n w (W.setCell p u) S :=
 ⟨h.le, h.bel.setCell hq u, fun k hk hn => (Below.heap_setCell W p u k (fun e => hn (by rw [e]; exact hp))).trans (h.blk k hk hn)⟩
theorem KeepS.mono (h : KeepS n w W S) (hs : ∀ k, S k → S' k) : KeepS n w W S' := ⟨h.le, h.bel, fun k hk hn => h.blk k hk (fun h2 => hn (hs k h2))⟩
end
/-! ### the marks -/
def mB (k n : Nat) : List Bool := (List.range n).map fun i => decide ((k + i) % 3 = 0)
def mN (k n : Nat) : List Int := (List.range n).map fun i => ((k + i : Nat) : Int)
theorem mB_length (k n : Nat) : (mB k n).length = n := by simp [mB]
theorem mN_length (k n : Nat) : (mN k n).length = n := by simp [mN]
theorem part {α : Type} (f : Nat → α) {n i : Nat} (xs : List α) (hl : xs.length = n) (hi : i < n) : ((List.range i).map f ++ xs.drop i).set i (f i) = (List.range (i + 1)).map f ++ xs.drop (i + 1) := by
 have e : xs.drop i = xs[i]'(by omega) :: xs.drop (i + 1) := List.drop_eq_getElem_cons (by omega)
 rw [e, List.set_append_right _ _ (by simp), List.length_map, List.length_range, Nat.sub_self, List.set_cons_zero, List.range_succ, List.map_append, List.append_assoc]
 rfl
def tot (l : List (List Int)) : Nat := (l.map List.length).sum
def mR (k : Nat) : List (List Int) → List (List Int)
 | [] => []
 | r :: l => mN k r.length :: mR (k + r.length) l
theorem mR_length (k : Nat) (l : List (List Int)) : (mR k l).length = l.length := by
 induction l generalizing k with
 | nil => rfl
 | cons r l ih => rw [mR, List.length_cons, List.length_cons, ih]
theorem tot_cons (r : List Int) (l : List (List Int)) : tot (r :: l) = r.length + tot l := by simp [tot]
theorem tot_append (a b : List (List Int)) : tot (a ++ b) = tot a + tot b := by unfold tot; rw [List.map_append, List.sum_append]
theorem tot_one (r : List Int) : tot [r] = r.length := by simp [tot]
theorem tot_take {l : List (List Int)} {i : Nat} (h : i < l.length) : tot (l.take (i + 1)) = tot (l.take i) + l[i].length := by
 rw [List.take_succ_eq_append_getElem h, tot_append, tot_one]
theorem tot_le (l : List (List Int)) (i : Nat) : tot (l.take i) ≤ tot l := by
 have : tot l = tot (l.take i) + tot (l.drop i) := by rw [← tot_append, List.take_append_drop]
 omega
theorem mR_snoc (k : Nat) (l : List (List Int)) (r : List Int) : mR k (l ++ [r]) = mR k l ++ [mN (k + tot l) r.length] := by
 induction l generalizing k with
 | nil => simp [mR, tot]
 | cons a l ih => rw [List.cons_append, mR, ih, mR, tot_cons, Nat.add_assoc]; rfl
theorem mR_step (k : Nat) {l : List (List Int)} {i : Nat} (h : i < l.length) : (mR k (l.take i) ++ l.drop i).set i (mN (k + tot (l.take i)) l[i].length) = mR k (l.take (i + 1)) ++ l.drop (i + 1) := by
 have e : l.drop i = l[i] :: l.drop (i + 1) := List.drop_eq_getElem_cons h
 rw [e, List.set_append_right _ _ (by rw [mR_length, List.length_take]; omega), mR_length, List.length_take, Nat.min_eq_left (by omega), Nat.sub_self, List.set_cons_zero, List.take_succ_eq_append_getElem h, mR_snoc, List.append_assoc]
 rfl
/-! ### they are put -/
set_option maxHeartbeats 2000000 in
set_option maxRecDepth 100000 in
theorem markB (k : Nat) (A : Option Addr) (c : Nat) (xs : List Bool) (w : World) (base : Nat) (ok : Nat → Prop) (hle : base ≤ w.heap.size) (h : Kd.R Kd.bool 4 w base ok (.slice A xs.length c) xs) (hk : k + xs.length ≤ 1000000000) :
  Calls Tryd.prog 34 #[.slice A xs.length c, .int .i64 (k : Int)] w fun e w' => e = .returned (.int .i64 ((k + xs.length : Nat) : Int)) ∧ Kd.R Kd.bool 4 w' base ok (.slice A xs.length c) (mB k xs.length) ∧ KeepS base w w' (fun b => some b = (Value.slice A xs.length c).ownBlock) := by
 have h0 := Aside0.mk h
 clear h
 go_enter Tryd.func34, Tryd.ntmps34
 go_wp2_with fail
 go_loopg [1, 5] xs.length (fun kq v1 v5 W => ∃ i : Nat, v1 = .int .i64 ((k + i : Nat) : Int) ∧ v5 = .int .i64 (i : Int) ∧ Aside0 (kq = xs.length - i) ∧ i ≤ xs.length ∧ Aside0 (Kd.R Kd.bool 4 W base ok (.slice A xs.length c) ((List.range i).map (fun j => decide ((k + j) % 3 = 0)) ++ xs.drop i)) ∧ Aside0 (KeepS base w W (fun b => some b = (Value.slice A xs.length c).ownBlock)))
 case atStart => exact ⟨0, rfl, rfl, ⟨rfl⟩, Nat.zero_le _, ⟨by simpa using h0.out⟩, ⟨KeepS.refl _ _ hle⟩⟩
 case round =>
  obtain ⟨i, rfl, rfl, hq, hil, hR, hK⟩ := hrel
  by_cases hi : i < xs.length
  ·have hi1 : ((i : Int) < (xs.length : Int)) = True := eq_true (by omega)
   have h0i : (0 ≤ (i : Int)) = True := eq_true (by omega)
   have hl : ((List.range i).map (fun j => decide ((k + j) % 3 = 0)) ++ xs.drop i).length = xs.length := by simp; omega
   obtain ⟨g, cg, hv, hgb, _, cells, hcg⟩ := Kd.R_form hR.out (by omega)
   obtain ⟨rfl, rfl⟩ : A = some ⟨g, 0, none⟩ ∧ c = cg := by
    simp only [Value.slice.injEq] at hv
    exact ⟨hv.1, hv.2.2⟩
   have f1 : wr.frozen? ⟨g, i, none⟩ = false := blk_frozen hcg i
   obtain ⟨ad, e1, k1⟩ := at_mark (Kd.R_reads' hR.out).2.2 i (by omega)
   cases e1
   have ea : (⟨g, 0, none⟩ : Addr).add i = ⟨g, i, none⟩ := by
    by_cases h0 : i = 0
    ·subst h0; rfl
    ·simp [Addr.add, h0]
   rw [ea] at k1
   have hm : Int.tmod ((k + i : Nat) : Int) 3 = (((k + i) % 3 : Nat) : Int) := rfl
   have hR2 := Kd.R_putn hR.out (i : Int) (decide ((k + i) % 3 = 0))
   rw [Int.toNat_natCast, part (fun j => decide ((k + j) % 3 = 0)) xs rfl hi] at hR2
   have hK2 := Aside0.mk (hK.out.set (p := ⟨g, i, none⟩) (by simp [Value.ownBlock]) hgb (.bool (decide ((k + i) % 3 = 0))))
   have hR3 := Aside0.mk hR2
   have hz : decide ((((k + i) % 3 : Nat) : Int) = 0) = decide ((k + i) % 3 = 0) := by rw [decide_eq_decide]; omega
   have hz3 : (((k : Int) + (i : Int)) % 3 == 0) = decide ((k + i) % 3 = 0) := by
    rw [← Int.natCast_add]
    exact hz
   have hkw : wrap64 (((k + i : Nat) : Int) + 1) = ((k + (i + 1) : Nat) : Int) := by unfold wrap64; omega
   obtain ⟨ob, k2⟩ : ∃ x, wr.cell? ⟨g, i, none⟩ = some x := ⟨_, k1⟩
   clear k1 hR2 hcg cells hv hl ea
   generalize decide ((k + i) % 3 = 0) = mb at *
   go_wp2_with fail
   go_roundg (xs.length - (i + 1))
   case measure => have := hq.out; omega
   case rel => exact ⟨i + 1, (by first | rfl | (rw [← hkw]; rfl)), (by go_num), ⟨by simp⟩, by omega, hR3, hK2⟩
  ·have hi1 : ((i : Int) < (xs.length : Int)) = False := eq_false (by omega)
   have he : i = xs.length := by omega
   subst he
   have hR2 := hR.out
   rw [List.drop_length, List.append_nil] at hR2
   go_wp2_with fail
   go_ret
   exact ⟨rfl, hR2, hK.out⟩
set_option maxHeartbeats 2000000 in
set_option maxRecDepth 100000 in
theorem markN (k : Nat) (A : Option Addr) (c : Nat) (xs : List Int) (w : World) (base : Nat) (ok : Nat → Prop) (hle : base ≤ w.heap.size) (h : Kd.R (Kd.int .i64) 2 w base ok (.slice A xs.length c) xs) (hk : k + xs.length ≤ 1000000000) :
  Calls Tryd.prog 77 #[.slice A xs.length c, .int .i64 (k : Int)] w fun e w' => e = .returned (.int .i64 ((k + xs.length : Nat) : Int)) ∧ Kd.R (Kd.int .i64) 2 w' base ok (.slice A xs.length c) (mN k xs.length) ∧ KeepS base w w' (fun b => some b = (Value.slice A xs.length c).ownBlock) := by
 have h0 := Aside0.mk h
 clear h
 go_enter Tryd.func77, Tryd.ntmps77
 go_wp2_with fail
 go_loopg [1, 5] xs.length (fun kq v1 v5 W => ∃ i : Nat, v1 = .int .i64 ((k + i : Nat) : Int) ∧ v5 = .int .i64 (i : Int) ∧ Aside0 (kq = xs.length - i) ∧ i ≤ xs.length ∧ Aside0 (Kd.R (Kd.int .i64) 2 W base ok (.slice A xs.length c) ((List.range i).map (fun j => ((k + j : Nat) : Int)) ++ xs.drop i)) ∧ Aside0 (KeepS base w W (fun b => some b = (Value.slice A xs.length c).ownBlock)))
 case atStart => exact ⟨0, rfl, rfl, ⟨rfl⟩, Nat.zero_le _, ⟨by simpa using h0.out⟩, ⟨KeepS.refl _ _ hle⟩⟩
 case round =>
  obtain ⟨i, rfl, rfl, hq, hil, hR, hK⟩ := hrel
  by_cases hi : i < xs.length
  ·have hi1 : ((i : Int) < (xs.length : Int)) = True := eq_true (by omega)
   have h0i : (0 ≤ (i : Int)) = True := eq_true (by omega)
   have hl : ((List.range i).map (fun j => ((k + j : Nat) : Int)) ++ xs.drop i).length = xs.length := by simp; omega
   obtain ⟨g, cg, hv, hgb, _, cells, hcg⟩ := Kd.R_form hR.out (by omega)
   obtain ⟨rfl, rfl⟩ : A = some ⟨g, 0, none⟩ ∧ c = cg := by
    simp only [Value.slice.injEq] at hv
    exact ⟨hv.1, hv.2.2⟩
   have f1 : wr.frozen? ⟨g, i, none⟩ = false := blk_frozen hcg i
   obtain ⟨ad, e1, k1⟩ := at_num (Kd.R_reads' hR.out).2.2 i (by omega)
   cases e1
   have ea : (⟨g, 0, none⟩ : Addr).add i = ⟨g, i, none⟩ := by
    by_cases h0 : i = 0
    ·subst h0; rfl
    ·simp [Addr.add, h0]
   rw [ea] at k1
   have hR2 := Kd.R_putn hR.out (i : Int) ((k + i : Nat) : Int)
   rw [Int.toNat_natCast, part (fun j => ((k + j : Nat) : Int)) xs rfl hi] at hR2
   have hK2 := Aside0.mk (hK.out.set (p := ⟨g, i, none⟩) (by simp [Value.ownBlock]) hgb (.int .i64 ((k + i : Nat) : Int)))
   have hR3 := Aside0.mk hR2
   have hkw : wrap64 (((k + i : Nat) : Int) + 1) = ((k + (i + 1) : Nat) : Int) := by unfold wrap64; omega
   obtain ⟨ob, k2⟩ : ∃ x, wr.cell? ⟨g, i, none⟩ = some x := ⟨_, k1⟩
   clear k1 hR2 hcg cells hv hl ea
   go_wp2_with fail
   go_roundg (xs.length - (i + 1))
   case measure => have := hq.out; omega
   case rel => exact ⟨i + 1, (by first | rfl | (rw [← hkw]; rfl)), (by go_num), ⟨by simp⟩, by omega, hR3, hK2⟩
  ·have hi1 : ((i : Int) < (xs.length : Int)) = False := eq_false (by omega)
   have he : i = xs.length := by omega
   subst he
   have hR2 := hR.out
   rw [List.drop_length, List.append_nil] at hR2
   go_wp2_with fail
   go_ret
   exact ⟨rfl, hR2, hK.out⟩
theorem row_in {w W : World} {base : Nat} {ok : Nat → Prop} {A : Option Addr} {n c i : Nat} {ys : List (List Int)} (h : Kd.S Row 75 w base ok (.slice A n c) ys) (hi : i < ys.length) :
  ∃ (ad : Addr) (oki : Nat → Prop) (A' : Option Addr) (c' : Nat), A = some ad ∧ w.cell? (ad.add i) = some (.slice A' ys[i].length c') ∧ Kd.R (Kd.int .i64) 2 w base oki (.slice A' ys[i].length c') ys[i] ∧ (∀ k, oki k → ok k) ∧
   ∀ (W : World) (r : List Int), KeepS base w W oki → r.length = ys[i].length → Kd.R (Kd.int .i64) 2 W base oki (.slice A' ys[i].length c') r → Kd.S Row 75 W base ok (.slice A n c) (ys.set i r) := by
 obtain ⟨g, cg, hv, _, _, cells, hcg⟩ := Kd.S_form h (by omega)
 obtain ⟨rfl, rfl, rfl⟩ : A = some ⟨g, 0, none⟩ ∧ n = ys.length ∧ c = cg := by
  simp only [Value.slice.injEq] at hv
  exact ⟨hv.1, by omega, hv.2.2⟩
 obtain ⟨oki, ce, hcl, hM, hcc, hoki, hH⟩ := Kd.S_lend h [] (i : Int) (by omega) (by omega)
 obtain ⟨ve, rfl, hR⟩ := hM
 have hc0 := hcc 0 _ rfl
 have es : Row.sz = 1 := rfl
 have ex : ys.getD (i : Int).toNat [] = ys[i] := by simp [List.getD_eq_getElem?_getD, hi]
 rw [ex] at hR
 simp only [es, Nat.mul_one, Nat.add_zero, Int.toNat_natCast] at hc0
 obtain ⟨A', c', rfl⟩ := Kd.R_slice hR
 have ea : (⟨g, 0, none⟩ : Addr).add i = ⟨g, i, none⟩ := by
  by_cases h0 : i = 0
  ·subst h0; rfl
  ·simp [Addr.add, h0]
 refine ⟨_, oki, A', c', rfl, by rw [ea]; exact hc0, hR, fun k hk => (hoki k hk).1, fun W r hK hrl hR' => ?_⟩
 have := Kd.H_back (Kd.H_step hH (fun k _ hn hlt => hK.blk k hlt hn)) (x' := r) (okp := oki) ⟨_, rfl, hR'⟩ (fun _ hk => hk)
 rwa [Int.toNat_natCast] at this
set_option maxHeartbeats 2000000 in
set_option maxRecDepth 100000 in
theorem markR (k : Nat) (A : Option Addr) (c : Nat) (xs : List (List Int)) (w : World) (base : Nat) (ok : Nat → Prop) (hle : base ≤ w.heap.size) (h : Kd.S Row 75 w base ok (.slice A xs.length c) xs) (hl0 : xs.length ≤ 2000000) (hk : k + tot xs ≤ 1000000000) :
  Calls Tryd.prog 35 #[.slice A xs.length c, .int .i64 (k : Int)] w fun e w' => e = .returned (.int .i64 ((k + tot xs : Nat) : Int)) ∧ Kd.S Row 75 w' base ok (.slice A xs.length c) (mR k xs) ∧ KeepS base w w' ok := by
 have h0 := Aside0.mk h
 clear h
 go_enter Tryd.func35, Tryd.ntmps35
 go_wp2_with fail
 go_loopg [1, 5] xs.length (fun kq v1 v5 W => ∃ i : Nat, v1 = .int .i64 ((k + tot (xs.take i) : Nat) : Int) ∧ v5 = .int .i64 (i : Int) ∧ Aside0 (kq = xs.length - i) ∧ i ≤ xs.length ∧ Aside0 (Kd.S Row 75 W base ok (.slice A xs.length c) (mR k (xs.take i) ++ xs.drop i)) ∧ Aside0 (KeepS base w W ok))
 case atStart => exact ⟨0, rfl, rfl, ⟨rfl⟩, Nat.zero_le _, ⟨by simpa [mR] using h0.out⟩, ⟨KeepS.refl _ _ hle⟩⟩
 case round =>
  obtain ⟨i, rfl, rfl, hq, hil, hR, hK⟩ := hrel
  by_cases hi : i < xs.length
  ·have hi1 : ((i : Int) < (xs.length : Int)) = True := eq_true (by omega)
   have h0i : (0 ≤ (i : Int)) = True := eq_true (by omega)
   have hlm : (mR k (xs.take i)).length = i := by rw [mR_length, List.length_take]; omega
   have hl : (mR k (xs.take i) ++ xs.drop i).length = xs.length := by rw [List.length_append, hlm, List.length_drop]; omega
   have eg : (mR k (xs.take i) ++ xs.drop i)[i]'(by omega) = xs[i] := by
    rw [List.getElem_append_right (by omega), List.getElem_drop]
    congr 1
    omega
   obtain ⟨ad, oki, A', c', rfl, e1, hRi, hoki, hback⟩ := row_in (W := wr) hR.out (i := i) (by omega)
   rw [eg] at e1 hRi hback
   have hst := mR_step k hi
   have ht1 := tot_take hi
   have ht2 := tot_le xs (i + 1)
   obtain ⟨T, hT⟩ : ∃ T, k + tot (xs.take i) = T := ⟨_, rfl⟩
   obtain ⟨r, hr⟩ : ∃ r, xs[i] = r := ⟨_, rfl⟩
   rw [hT, hr] at hst
   have hT2 : k + tot (xs.take (i + 1)) = T + r.length := by rw [ht1, hr]; omega
   have hTl : T + r.length ≤ 1000000000 := by omega
   have hTq := Aside0.mk hT2
   rw [hr] at e1 hRi hback
   have hst2 := Aside0.mk hst
   have hRq := Aside0.mk hRi
   have hbq := Aside0.mk hback
   clear hst ht1 ht2 hr hlm hl eg hT2 hRi hback
   rw [hT]
   clear hT
   go_wp2_with (go_at_call 77; go_loud (
    with_reducible refine (markN T A' c' r wr base oki (Nat.le_trans hle hK.out.size) hRq.out hTl).mono ?_
    rintro e w5 ⟨rfl, hR5, hK5⟩
    have hS5 := Aside0.mk (hbq.out w5 _ (hK5.mono (fun b hb => hR5.1 b hb.symm)) (mN_length _ _) hR5)
    have hK6 := Aside0.mk (hK.out.trans (hK5.mono (fun b hb => hR5.1 b hb.symm)) (Nat.le_refl _) (fun b hb => .inl (hoki b hb)))))
   go_roundg (xs.length - (i + 1))
   case measure => have := hq.out; omega
   case rel => exact ⟨i + 1, (by have := hTq.out; congr 1; omega), (by go_num), ⟨by simp⟩, by omega, ⟨by rw [← hst2.out]; exact hS5.out⟩, hK6⟩
  ·have hi1 : ((i : Int) < (xs.length : Int)) = False := eq_false (by omega)
   have he : i = xs.length := by omega
   subst he
   have hR2 := hR.out
   rw [List.drop_length, List.append_nil, List.take_length] at hR2
   rw [List.take_length]
   go_wp2_with fail
   go_ret
   exact ⟨rfl, hR2, hK.out⟩
/-! ### they are found -/
set_option maxHeartbeats 2000000 in
theorem heldB (k n : Nat) (A : Option Addr) (c : Nat) (w : World) (h : Kd.C Kd.bool w A n (mB k n)) (hk : k + n ≤ 1000000000) :
  Calls Tryd.prog 36 #[.slice A n c, .int .i64 (k : Int)] w fun e w' => e = .returned (.int .i64 ((k + n : Nat) : Int)) ∧ Below w.heap.size w w' := by
 go_enter Tryd.func36, Tryd.ntmps36
 go_wp2_with fail
 go_loopg [1, 5] n (fun kq v1 v5 W => ∃ i : Nat, v1 = .int .i64 ((k + i : Nat) : Int) ∧ v5 = .int .i64 (i : Int) ∧ Aside0 (kq = n - i) ∧ i ≤ n ∧ Aside0 (Below w.heap.size w W))
 case atStart => exact ⟨0, rfl, rfl, ⟨rfl⟩, Nat.zero_le _, ⟨Below.refl _ _⟩⟩
 case round =>
  obtain ⟨i, rfl, rfl, hq, hil, hB⟩ := hrel
  by_cases hi : i < n
  ·have hi1 : ((i : Int) < (n : Int)) = True := eq_true (by omega)
   have h0i : (0 ≤ (i : Int)) = True := eq_true (by omega)
   obtain ⟨ad, rfl, k1⟩ := at_mark (Kd.C_below h hB.out) i (by rw [mB_length]; exact hi)
   have eg : (mB k n)[i]'(by rw [mB_length]; exact hi) = decide ((k + i) % 3 = 0) := by simp [mB]
   rw [eg] at k1
   have hm : Int.tmod ((k + i : Nat) : Int) 3 = (((k + i) % 3 : Nat) : Int) := rfl
   have hz : decide ((((k + i) % 3 : Nat) : Int) = 0) = decide ((k + i) % 3 = 0) := by rw [decide_eq_decide]; omega
   have hz3 : (((k : Int) + (i : Int)) % 3 == 0) = decide ((k + i) % 3 = 0) := by
    rw [← Int.natCast_add]
    exact hz
   have hkw : wrap64 (((k + i : Nat) : Int) + 1) = ((k + (i + 1) : Nat) : Int) := by unfold wrap64; omega
   have hB2 := Aside0.mk hB.out
   clear eg
   generalize decide ((k + i) % 3 = 0) = mb at *
   have hmb : (mb != mb) = false := by cases mb <;> rfl
   have hmb3 : ((!mb) == mb) = false := by cases mb <;> rfl
   go_wp2_with fail
   go_roundg (n - (i + 1))
   case measure => have := hq.out; omega
   case rel => exact ⟨i + 1, (by first | rfl | (rw [← hkw]; rfl)), (by go_num), ⟨by simp⟩, by omega, hB2⟩
  ·have hi1 : ((i : Int) < (n : Int)) = False := eq_false (by omega)
   have he : i = n := by omega
   subst he
   go_wp2_with fail
   go_ret
   exact ⟨rfl, hB.out⟩
/-! ### a relation -/
/-- A relation whose rows are its own. -/
structure Rel (w : World) (base : Nat) (ok : Nat → Prop) (A2 : Option Addr) (c2 : Nat) (a : List Bool) (A3 : Option Addr) (c3 : Nat) (b : List (List Int)) : Prop where
 r2 : Kd.R Kd.bool 4 w base ok (.slice A2 a.length c2) a
 r3 : Kd.S Row 75 w base ok (.slice A3 b.length c3) b
section
variable {w W : World} {base : Nat} {ok : Nat → Prop} {A2 A3 : Option Addr} {c2 c3 : Nat} {a : List Bool} {b : List (List Int)}
theorem Rel.step (h : Rel w base ok A2 c2 a A3 c3 b) (hm : ∀ k, ok k → k < w.heap.size → W.heap[k]? = w.heap[k]?) : Rel W base ok A2 c2 a A3 c3 b := ⟨Kd.R_step h.r2 hm, Kd.S_step h.r3 hm⟩
theorem Rel.below (h : Rel w base ok A2 c2 a A3 c3 b) (hb : Below w.heap.size w W) : Rel W base ok A2 c2 a A3 c3 b := h.step (fun k _ hk => hb.block k hk)
theorem Rel.bound (h : Rel w base ok A2 c2 a A3 c3 b) : Rel w base (fun k => ok k ∧ base ≤ k ∧ k < w.heap.size) A2 c2 a A3 c3 b :=
 ⟨Kd.R_mono (Kd.R_bound h.r2) (fun k hk => ⟨hk.1, hk.2.1, hk.2.2.1⟩), Kd.S_mono (Kd.S_bound h.r3) (fun k hk => ⟨hk.1, hk.2.1, hk.2.2.1⟩)⟩
theorem Rel.mono {ok' : Nat → Prop} (h : Rel w base ok A2 c2 a A3 c3 b) (hk : ∀ k, ok k → ok' k) : Rel w base ok' A2 c2 a A3 c3 b := ⟨Kd.R_mono h.r2 hk, Kd.S_mono h.r3 hk⟩
end
set_option maxHeartbeats 2000000 in
theorem markRel (k : Nat) (t s : Int) (A2 : Option Addr) (c2 : Nat) (a : List Bool) (A3 : Option Addr) (c3 : Nat) (b : List (List Int)) (w : World) (base : Nat) (ok : Nat → Prop) (hle : base ≤ w.heap.size) (h : Rel w base ok A2 c2 a A3 c3 b) (hl : b.length ≤ 2000000) (hk : k + a.length + tot b ≤ 1000000000) :
  Calls Tryd.prog 11 #[.agg #[.int .i64 t, .int .i64 s, .slice A2 a.length c2, .slice A3 b.length c3], .int .i64 (k : Int)] w fun e w' => e = .returned (.int .i64 ((k + a.length + tot b : Nat) : Int)) ∧ Rel w' base ok A2 c2 (mB k a.length) A3 c3 (mR (k + a.length) b) ∧ KeepS base w w' ok := by
 have hP := blk_new w (.cells #[.int .i64 t, .int .i64 s, .slice A2 a.length c2, .slice A3 b.length c3] 27)
 have hb1 : Below w.heap.size w (w.alloc (.cells #[.int .i64 t, .int .i64 s, .slice A2 a.length c2, .slice A3 b.length c3] 27)) := below_alloc (Below.refl _ _) _
 have h1 := h.below hb1
 have hb := h.bound
 have m2 : (w.alloc (.cells #[.int .i64 t, .int .i64 s, .slice A2 a.length c2, .slice A3 b.length c3] 27)).cell? ⟨w.heap.size, 2, none⟩ = some (.slice A2 a.length c2) := (blk_cell hP 2).trans rfl
 have r2 : Kd.R Kd.bool 4 (w.alloc (.cells #[.int .i64 t, .int .i64 s, .slice A2 a.length c2, .slice A3 b.length c3] 27)) base (fun k => ok k ∧ k < w.heap.size) (.slice A2 a.length c2) a := Kd.R_mono (Kd.R_step (w1 := (w.alloc (.cells #[.int .i64 t, .int .i64 s, .slice A2 a.length c2, .slice A3 b.length c3] 27))) hb.r2 (fun k _ hk => hb1.block k hk)) (fun k hk => ⟨hk.1, hk.2.2⟩)
 have r3 : Kd.S Row 75 (w.alloc (.cells #[.int .i64 t, .int .i64 s, .slice A2 a.length c2, .slice A3 b.length c3] 27)) base (fun k => ok k ∧ k < w.heap.size) (.slice A3 b.length c3) b := Kd.S_mono (Kd.S_step (w1 := (w.alloc (.cells #[.int .i64 t, .int .i64 s, .slice A2 a.length c2, .slice A3 b.length c3] 27))) hb.r3 (fun k _ hk => hb1.block k hk)) (fun k hk => ⟨hk.1, hk.2.2⟩)
 have hty := Kd.R_typed r2
 have r3q := Aside0.mk (Kd.S_apart' r3 hty (by decide))
 have r2q := Aside0.mk r2
 have hPq := Aside0.mk hP
 have hbq := Aside0.mk hb1
 clear h h1 hb r2 r3 hty hP hb1
 obtain ⟨T, hT⟩ : ∃ T, k + a.length = T := ⟨_, rfl⟩
 obtain ⟨U, hU⟩ : ∃ U, T + tot b = U := ⟨_, rfl⟩
 have hTq := Aside0.mk hT
 have hUq := Aside0.mk hU
 have hkq := Aside0.mk hk
 rw [hT, hU]
 clear hT hU hk
 go_enter Tryd.func11, Tryd.ntmps11
 go_wp2_with (first
  | (go_at_call 34; go_loud (
    have q := markB k A2 c2 a _ base _ (Nat.le_trans hle (Below.size hbq.out)) r2q.out (by have := hkq.out; omega)
    rw [hTq.out] at q
    with_reducible refine q.mono ?_
    rintro e w2 ⟨rfl, hR2, hK2⟩
    have hP2 : w2.heap[w.heap.size]? = _ := (hK2.blk _ (blk_lt hPq.out) (fun e => by have := (r2q.out.1 _ e.symm).2; omega)).trans hPq.out
    have m3 : w2.cell? ⟨w.heap.size, 3, none⟩ = some (.slice A3 b.length c3) := (blk_cell hP2 3).trans rfl
    have hS2 := Kd.S_step (w1 := w2) r3q.out (fun k hk hlt => hK2.blk k hlt (fun e => hk.2 e))
    have hS2b := Kd.S_bound hS2
    have hR2q := Aside0.mk hR2
    have hS2q := Aside0.mk hS2b
    have hK2q := Aside0.mk hK2
    clear hS2 hS2b hR2 hK2 hP2))
  | (go_at_call 35; go_loud (
    have q := markR T A3 c3 b _ base _ (Nat.le_trans (Nat.le_trans hle (Below.size hbq.out)) hK2q.out.size) hS2q.out hl (by have := hkq.out; have := hTq.out; omega)
    rw [hUq.out] at q
    with_reducible refine q.mono ?_
    rintro e w3 ⟨rfl, hS3, hK3⟩
    have hS3q := Aside0.mk hS3
    have hK3q := Aside0.mk hK3
    clear hS3 hK3)))
 go_ret
 refine ⟨rfl, ⟨?_, ?_⟩, ?_⟩
 ·rw [mB_length]
  refine Kd.R_mono (Kd.R_step (w1 := w3) (Kd.R_bound hR2q.out) (fun k hk hlt => hK3q.out.blk k hlt (fun e => ?_))) (fun k hk => hk.1.1)
  obtain ⟨_, _, _, q, hq, cells, hc⟩ := hk
  obtain ⟨_, _, _, q', hq', cells', hc'⟩ := e
  rw [hc] at hc'
  injection hc' with hc'
  injection hc' with _ hc'
  exact (show ∀ a ∈ 4 :: Kd.bool.E, ∀ b ∈ 75 :: Row.E, a ≠ b by decide) q hq q' hq' hc'
 ·rw [mR_length]
  exact Kd.S_mono hS3q.out (fun k hk => hk.1.1.1)
 ·have h1 : KeepS base w (w.alloc (.cells #[.int .i64 t, .int .i64 s, .slice A2 a.length c2, .slice A3 b.length c3] 27)) ok := (KeepS.refl w ok hle).below hbq.out
  have h2 : KeepS base w w2 ok := h1.trans hK2q.out (Nat.le_refl _) (fun k hk => .inl (r2q.out.1 k hk.symm).1)
  exact h2.trans hK3q.out (Nat.le_refl _) (fun k hk => .inl hk.1.1.1)
end Go.Proofs.YtnjdkhnepmmfgaaDoor.Mk
namespace Go.Proofs.YtnjdkhnepmmfgaaDoor.PM1
open Go.RowKit Go.Proofs.YtnjdkhnepmmfgaaDoorW.PrintWords Go.Proofs.YtnjdkhnepmmfgaaDoorW.PrintLast Go.Proofs.YtnjdkhnepmmfgaaDoorW.PrintMore
attribute [local go_sem] max2_int min2_int max_two min_two max_three min_three max_four min_four   -- for this text's walks alone
set_option linter.unusedVariables false
set_option linter.unusedSimpArgs false
def errW : Option Int → Value
 | none => .nilIface
 | some c => .iface 0 (.int .i64 c)
theorem errW_none : errW none = .nilIface := rfl
theorem errW_some (c : Int) : errW (some c) = .iface 0 (.int .i64 c) := rfl
end Go.Proofs.YtnjdkhnepmmfgaaDoor.PM1
namespace Go.Proofs.YtnjdkhnepmmfgaaDoor.PM1
open Go.RowKit Go.Proofs.YtnjdkhnepmmfgaaDoorW.PrintWords Go.Proofs.YtnjdkhnepmmfgaaDoorW.PrintLast Go.Proofs.YtnjdkhnepmmfgaaDoorW.PrintMore
attribute [local go_sem] max2_int min2_int max_two min_two max_three min_three max_four min_four   -- for this text's walks alone
set_option linter.unusedVariables false
set_option linter.unusedSimpArgs false
/-! ### laws_markText: function 89 -/
def laws_markText.l0 : Nat → Int → ByteArray → Option (ByteArray)
 | 0, _, _ => none
 | k + 1, x0, x3 => if x0 > 0 then ((some (([(wrap64 (48 + (Int.tmod x0 10))) % 256] : List Int) : List Int)).bind fun y101 => (if (strOfNums y101).size + x3.size ≤ 9223372036854775807 then (laws_markText.l0 k (wrap64 (Int.tdiv x0 10)) ((strOfNums y101) ++ x3)) else (none))) else (if 1 + x3.size ≤ 9223372036854775807 then (some ((⟨#[109]⟩ : ByteArray) ++ x3)) else (none))
def laws_markText.f (k : Nat) (a0 : Int) : Option (ByteArray) := if a0 ≤ 0 then (some (⟨#[109, 48]⟩ : ByteArray)) else (laws_markText.l0 k a0 (⟨#[]⟩ : ByteArray))
theorem laws_markText.mono_l : ∀ k, (∀ y0 y1, LeO (laws_markText.l0 k y0 y1) (laws_markText.l0 (k + 1) y0 y1))
 | 0 => fun _ _ r h => by simp [laws_markText.l0] at h
 | k + 1 => by
  have ih0 := laws_markText.mono_l k
  ·intro y0 y1
   unfold laws_markText.l0
   repeat' first
   | (with_reducible exact ih0 _ _)
   | (with_reducible exact LeO.refl _)
   | (with_reducible exact LeO.none _)
   | (with_reducible refine LeO.ite ?_ ?_)
   | (with_reducible refine LeO.bind ?_ (fun _ => ?_))
   | exact ih0 _ _
   | exact LeO.none _
   | refine LeO.ite ?_ ?_
   | refine LeO.bind ?_ (fun _ => ?_)
theorem laws_markText.mono : ∀ a0 k, LeO (laws_markText.f k a0) (laws_markText.f (k + 1) a0) := by
 intro a0 k
 have ih0 := laws_markText.mono_l k
 unfold laws_markText.f
 repeat' first
   | (with_reducible exact ih0 _ _)
   | (with_reducible exact LeO.refl _)
   | (with_reducible exact LeO.none _)
   | (with_reducible refine LeO.ite ?_ ?_)
   | (with_reducible refine LeO.bind ?_ (fun _ => ?_))
   | exact ih0 _ _
   | exact LeO.none _
   | refine LeO.ite ?_ ?_
   | refine LeO.bind ?_ (fun _ => ?_)
set_option maxHeartbeats 8000000 in
set_option maxRecDepth 100000 in
theorem laws_markText.calls (k : Nat) (a0 : Int) (r : ByteArray) (w : World) (h : laws_markText.f k a0 = some r) :
  Calls Tryd.prog 89 #[.int .i64 a0] w fun e w' => e = .returned (.string r) ∧ Below w.heap.size w w' := by
 have HB := Aside0.mk (Below.refl w.heap.size w)
 have H : (if a0 ≤ 0 then (some (⟨#[109, 48]⟩ : ByteArray)) else (laws_markText.l0 k a0 (⟨#[]⟩ : ByteArray))) = some r := h
 clear h
 by_cases c2 : a0 ≤ 0
 ·rw [if_pos c2] at H
  have c2b0 : decide (a0 ≤ 0) = true := decide_eq_true c2
  clear c2
  obtain rfl := Option.some.inj H
  simp only [Option.some.injEq, Prod.mk.injEq] at H
  obtain ⟨rfl⟩ := H
  go_enter Tryd.func89, Tryd.ntmps89
  go_wp2
  go_ret
  exact ⟨by first | rfl | (simp [errW_none, errW_some] <;> rfl) | (simp [*, errW_none, errW_some] <;> rfl), by repeat (first | (with_reducible first | exact HB.out | apply below_alloc | apply pw_below_drewN | apply below_drew1) | exact HB.out)⟩
 ·rw [if_neg c2] at H
  have c2b0 : decide (a0 ≤ 0) = false := decide_eq_false c2
  clear c2
  have H' := Aside0.mk H
  clear H
  go_enter Tryd.func89, Tryd.ntmps89
  go_wp2
  go_loopg [0, 3] k (fun kq v0 v3 w' => ∃ (x0_1 : Int) (x3_1 : ByteArray), v0 = .int .i64 x0_1 ∧ v3 = .string x3_1 ∧ Aside0 (laws_markText.l0 kq x0_1 x3_1 = some r) ∧ Aside0 (kq ≤ k) ∧ Aside0 (Below w.heap.size w w'))
  case atStart => exact ⟨(a0), ((⟨#[]⟩ : ByteArray)), (by first | rfl | (simp; done) | (simp [*]; done) | (simp [wrap64]; done)), (by first | rfl | (simp; done) | (simp [*]; done) | (simp [wrap64]; done)), H', ⟨Nat.le_refl _⟩, ⟨by repeat (first | (with_reducible first | exact HB.out | apply below_alloc | apply pw_below_drewN | apply below_drew1) | exact HB.out)⟩⟩
  case round =>
   clear H'
   try clear c2
   try clear c2b0
   try clear p2
   obtain ⟨x0_1, x3_1, rfl, rfl, HA, HK1, HB⟩ := hrel
   cases gk with
   | zero => exact absurd HA.out (by simp [laws_markText.l0])
   | succ k1 =>
    have H := HA.out
    clear HA
    simp only [laws_markText.l0] at H
    by_cases c3 : x0_1 > 0
    ·rw [if_pos c3] at H
     have c3b0 : decide (0 < x0_1) = true := decide_eq_true c3
     clear c3
     obtain ⟨y101, hy101⟩ : ∃ y_ : List Int, y_ = (([(wrap64 (48 + (Int.tmod x0_1 10))) % 256] : List Int)) := ⟨_, rfl⟩
     replace H : (if (strOfNums y101).size + x3_1.size ≤ 9223372036854775807 then (laws_markText.l0 k1 (wrap64 (Int.tdiv x0_1 10)) ((strOfNums y101) ++ x3_1)) else (none)) = some r := by first | (rw [hy101]; with_reducible exact H) | (have H2_ := (Option.bind_some _ _).symm.trans H; rw [hy101]; with_reducible exact H2_) | (have H2_ := (Option.bind_some _ _).symm.trans H; with_reducible exact H2_) | with_reducible exact H | (rw [hy101]; exact H) | exact H
     have Ny101 := Aside0.mk hy101
     clear hy101
     by_cases c4 : (strOfNums y101).size + x3_1.size ≤ 9223372036854775807
     ·rw [if_pos c4] at H
      have c4b0 := eq_true c4
      have c4b1 : decide ((strOfNums y101).size + x3_1.size ≤ 9223372036854775807) = true := decide_eq_true c4
      try have c4b2 : (9223372036854775807 < (strOfNums y101).size + x3_1.size) = False := eq_false (Nat.not_lt.2 c4)
      have H' := Aside0.mk H
      clear H
      go_wp2_with (first | ((with_reducible refine gate_dst (N := 12) rfl ?_); refine Kd.R_lit (Kd.int .u8) _ 5 ?hg (N := 12) ?hd (xs := ([(wrap64 (48 + (Int.tmod x0_1 10))) % 256] : List Int)) (inner := [.int .u8 ((wrap64 (48 + (Int.tmod x0_1 10))) % 256)]) (ok := fun _ => True) (okp := fun _ => True) ?hr ?hp (fun _ hk => hk) trivial (Below.refl _ _) (Nat.le_refl _) (by simp) ?_; (case hd => rfl); (case hg => rfl); (case hr => first | (go_simp; done) | (go_simp; rfl)); (case hp => exact (Reps.one (show Kd.M (Kd.int .u8) _ _ _ ((wrap64 (48 + (Int.tmod x0_1 10))) % 256) [.int .u8 ((wrap64 (48 + (Int.tmod x0_1 10))) % 256)] from rfl) (Reps.none _ _))); intro v102 w5 ho6 hb hg_ hnew_; clear hg_ hnew_; (first | rw [← Ny101.out] at ho6 | (simp only [Int.reduceToNat] at ho6; rw [← Ny101.out] at ho6)); have n0_ := Aside0.mk (Kd.R_lower ho6 (below_size (by repeat (first | (with_reducible first | exact HB.out | apply below_alloc | apply pw_below_drewN | apply below_drew1) | exact HB.out)))); have n1_ := Aside0.mk (below_step (by repeat (first | (with_reducible first | exact HB.out | apply below_alloc | apply pw_below_drewN | apply below_drew1) | exact HB.out)) hb); clear HB; have HO103 := n0_; have HB := n1_; clear n0_ n1_; clear hb ho6; have hcv7 := own_string (P := Tryd.prog) Tryd.underlying132 Tryd.underlying5 Tryd.underlying9 (Kd.own_of_R HO103.out)))
      go_roundg k1
      case measure => have := HK1.out; omega
      case rel => exact ⟨(wrap64 (Int.tdiv x0_1 10)), ((strOfNums y101) ++ x3_1), (by first | rfl | (simp; done) | (simp [*]; done) | (simp [wrap64]; done)), (by first | rfl | (simp; done) | (simp [*]; done) | (simp [wrap64]; done)), H', ⟨by have := HK1.out; omega⟩, ⟨by repeat (first | (with_reducible first | exact HB.out | apply below_alloc | apply pw_below_drewN | apply below_drew1) | exact HB.out)⟩⟩
     ·rw [if_neg c4] at H
      exact absurd H (by simp)
    ·rw [if_neg c3] at H
     have c3b0 : decide (0 < x0_1) = false := decide_eq_false c3
     clear c3
     by_cases c8 : 1 + x3_1.size ≤ 9223372036854775807
     ·rw [if_pos c8] at H
      have c8b0 := eq_true c8
      have c8b1 : decide (1 + x3_1.size ≤ 9223372036854775807) = true := decide_eq_true c8
      try have c8b2 : (9223372036854775807 < 1 + x3_1.size) = False := eq_false (Nat.not_lt.2 c8)
      obtain rfl := Option.some.inj H
      simp only [Option.some.injEq, Prod.mk.injEq] at H
      obtain ⟨rfl⟩ := H
      go_wp2
      go_ret
      exact ⟨by first | rfl | (simp [errW_none, errW_some] <;> rfl) | (simp [*, errW_none, errW_some] <;> rfl), by repeat (first | (with_reducible first | exact HB.out | apply below_alloc | apply pw_below_drewN | apply below_drew1) | exact HB.out)⟩
     ·rw [if_neg c8] at H
      exact absurd H (by simp)
end Go.Proofs.YtnjdkhnepmmfgaaDoor.PM1
namespace Go.Proofs.YtnjdkhnepmmfgaaDoor.PM1
open Go.RowKit Go.Proofs.YtnjdkhnepmmfgaaDoorW.PrintWords Go.Proofs.YtnjdkhnepmmfgaaDoorW.PrintLast Go.Proofs.YtnjdkhnepmmfgaaDoorW.PrintMore
attribute [local go_sem] max2_int min2_int max_two min_two max_three min_three max_four min_four   -- for this text's walks alone
set_option linter.unusedVariables false
set_option linter.unusedSimpArgs false
end Go.Proofs.YtnjdkhnepmmfgaaDoor.PM1
namespace Go.Proofs.YtnjdkhnepmmfgaaDoor.Mtx
set_option linter.unusedVariables false
set_option linter.unusedSimpArgs false
open Go.RowKit Go.Proofs.YtnjdkhnepmmfgaaDoorW.PrintWords Go.Proofs.YtnjdkhnepmmfgaaDoorW.PrintLast Go.Proofs.YtnjdkhnepmmfgaaDoorW.PrintMore PM1
theorem l0_some : ∀ (f k : Nat) (x : ByteArray), k < 10 ^ f → x.size + f ≤ 100 → k < 1000000000000000000 → ∃ r, laws_markText.l0 (f + 1) (k : Int) x = some r := by
 intro f
 induction f with
 | zero =>
  intro k x hk hx _
  have : k = 0 := by simpa using hk
  subst this
  unfold laws_markText.l0
  rw [if_neg (by decide), if_pos (by omega)]
  exact ⟨_, rfl⟩
 | succ f ih =>
  intro k x hk hx hb
  unfold laws_markText.l0
  by_cases h0 : ((k : Int)) > 0
  ·rw [if_pos h0]
   have hs : ∀ b : Int, (strOfNums [b]).size = 1 := fun b => rfl
   rw [Option.bind_some, if_pos (by rw [hs]; omega)]
   have e : wrap64 (Int.tdiv (k : Int) 10) = ((k / 10 : Nat) : Int) := by
    have : Int.tdiv (k : Int) 10 = ((k / 10 : Nat) : Int) := rfl
    rw [this]
    unfold wrap64
    omega
   rw [e]
   refine ih (k / 10) _ (by rw [Nat.pow_succ] at hk; omega) (by rw [ByteArray.size_append, hs]; omega) (by omega)
  ·rw [if_neg h0, if_pos (by omega)]
   exact ⟨_, rfl⟩
/-- The mark's text. -/
def mT (k : Nat) : ByteArray := (laws_markText.f 20 (k : Int)).getD ⟨#[]⟩
theorem mT_some {k : Nat} (hk : k < 1000000000000000000) : laws_markText.f 20 (k : Int) = some (mT k) := by
 have h : ∃ r, laws_markText.f 20 (k : Int) = some r := by
  unfold laws_markText.f
  by_cases h0 : ((k : Int)) ≤ 0
  ·rw [if_pos h0]
   exact ⟨_, rfl⟩
  ·rw [if_neg h0]
   exact l0_some 19 k _ (by omega) (by decide) hk
 obtain ⟨r, hr⟩ := h
 unfold mT
 rw [hr]
 rfl
theorem markText {k : Nat} (hk : k < 1000000000000000000) (w : World) : Calls Tryd.prog 89 #[.int .i64 (k : Int)] w fun e w' => e = .returned (.string (mT k)) ∧ Below w.heap.size w w' :=
 laws_markText.calls 20 (k : Int) (mT k) w (mT_some hk)
end Go.Proofs.YtnjdkhnepmmfgaaDoor.Mtx
namespace Go.Proofs.YtnjdkhnepmmfgaaDoor.Mk2
set_option linter.unusedVariables false
set_option linter.unusedSimpArgs false
open Go Go.RowKit Go.Proofs.YtnjdkhnepmmfgaaDoorW.PrintWords Go.Proofs.YtnjdkhnepmmfgaaDoorW.PrintLast Go.Proofs.YtnjdkhnepmmfgaaDoorW.PrintMore Kp Mg Mk Mtx
def vI (k i : Nat) : Value := .int .i64 ((k + i : Nat) : Int)
def vT (k i : Nat) : Value := .string (mT (k + i))
def mV (f : Nat → Value) (m : Nat) : List Value := (List.range m).map f
theorem own_g {w : World} {base n c : Nat} {e : TypeId} {A : Option Addr} {vals : List Value} (h : w.ownsRow base e 2 (.slice A n c) n vals) (hn : 0 < n) : ∃ g, A = some ⟨g, 0, none⟩ ∧ base ≤ g ∧ g < w.heap.size := by
 rcases h.2 with ⟨_, h0⟩ | ⟨g, cap, cur, hv, hg, hh, _⟩
 ·omega
 ·simp only [Value.slice.injEq] at hv
  exact ⟨g, hv.1, hg, blk_lt hh⟩
theorem wrapN {x : Nat} (h : x < 4611686018427387904) : wrap64 ((x : Int) + 1) = ((x + 1 : Nat) : Int) := by unfold wrap64; omega
set_option maxHeartbeats 2000000 in
set_option maxRecDepth 100000 in
theorem markI2 (k n : Nat) (A : Option Addr) (c : Nat) (vals : List Value) (w : World) (base : Nat) (hle : base ≤ w.heap.size) (h : w.ownsRow base 78 2 (.slice A n c) n vals) (hk : k + 2 * n ≤ 1000000000) :
  Calls Tryd.prog 46 #[.slice A n c, .int .i64 (k : Int)] w fun e w' => e = .returned (.int .i64 ((k + 2 * n : Nat) : Int)) ∧ w'.ownsRow base 78 2 (.slice A n c) n (mV (vI k) (2 * n)) ∧ KeepS base w w' (fun b => some b = (Value.slice A n c).ownBlock) := by
 have h0 := Aside0.mk h
 have hvl : vals.length = 2 * n := by rw [h.1, Nat.mul_comm]
 have hvq := Aside0.mk hvl
 have hkq := Aside0.mk hk
 obtain ⟨E, hE⟩ : ∃ E, k + 2 * n = E := ⟨_, rfl⟩
 have hEq := Aside0.mk hE
 rw [hE]
 clear h hvl hk hE
 go_enter Tryd.func46, Tryd.ntmps46
 go_wp2_with fail
 go_loopg [1, 5] n (fun kq v1 v5 W => ∃ i T : Nat, v1 = .int .i64 (T : Int) ∧ v5 = .int .i64 (i : Int) ∧ Aside0 (T = k + 2 * i) ∧ Aside0 (kq = n - i) ∧ i ≤ n ∧ Aside0 (W.ownsRow base 78 2 (.slice A n c) n ((List.range (2 * i)).map (vI k) ++ vals.drop (2 * i))) ∧ Aside0 (KeepS base w W (fun b => some b = (Value.slice A n c).ownBlock)))
 case atStart => exact ⟨0, k, rfl, rfl, ⟨rfl⟩, ⟨rfl⟩, Nat.zero_le _, ⟨by simpa using h0.out⟩, ⟨KeepS.refl _ _ hle⟩⟩
 case round =>
  obtain ⟨i, T, rfl, rfl, hT, hq, hil, hR, hK⟩ := hrel
  by_cases hi : i < n
  ·have hi1 : ((i : Int) < (n : Int)) = True := eq_true (by omega)
   have h0i : (0 ≤ (i : Int)) = True := eq_true (by omega)
   obtain ⟨g, rfl, hgb, _⟩ := own_g hR.out (by omega)
   have hgq := Aside0.mk hgb
   have hiq := Aside0.mk hi
   have hsw : wrap64 ((i : Int) + 1) = ((i + 1 : Nat) : Int) := wrapN (by have := hkq.out; omega)
   clear hgb hi
   go_wp2_with fail
   go_loopg [1, 6] 2 (fun kz v1 v6 W => ∃ j U : Nat, v1 = .int .i64 (U : Int) ∧ v6 = .int .i64 (j : Int) ∧ Aside0 (U = k + 2 * i + j) ∧ Aside0 (kz = 2 - j) ∧ j ≤ 2 ∧ Aside0 (W.ownsRow base 78 2 (.slice (some ⟨g, 0, none⟩) n c) n ((List.range (2 * i + j)).map (vI k) ++ vals.drop (2 * i + j))) ∧ Aside0 (KeepS base w W (fun b => some b = (Value.slice (some ⟨g, 0, none⟩) n c).ownBlock)))
   case atStart => exact ⟨0, T, rfl, rfl, ⟨hT.out⟩, ⟨rfl⟩, Nat.zero_le _, hR, hK⟩
   case round =>
    clear hR hK
    obtain ⟨j, U, rfl, rfl, hU, hz, hj2, hR, hK⟩ := hrel
    by_cases hj : j < 2
    ·have hj1 : ((j : Int) < 2) = True := eq_true (by omega)
     have h0j : (0 ≤ (j : Int)) = True := eq_true (by omega)
     have hUw : wrap64 ((U : Int) + 1) = ((U + 1 : Nat) : Int) := wrapN (by have := hkq.out; have := hU.out; have := hiq.out; clear hsw; omega)
     have hjw : wrap64 ((j : Int) + 1) = ((j + 1 : Nat) : Int) := wrapN (by clear hsw hUw; omega)
     have hUwq := Aside0.mk hUw
     have hjwq := Aside0.mk hjw
     have hswq := Aside0.mk hsw
     clear hUw hjw hsw
     have hp : 2 * i + j < 2 * n := by have := hiq.out; omega
     have hv : (vI k (2 * i + j)) = .int .i64 (U : Int) := by unfold vI; rw [hU.out, Nat.add_assoc]
     have hS := (hR.out.stored (2 * i + j) (vI k (2 * i + j))).1
     rw [Mk.part (vI k) vals hvq.out hp, hv] at hS
     have hK2 := hK.out.set (p := ⟨g, 2 * i + j, none⟩) (by simp [Value.ownBlock]) hgq.out (.int .i64 (U : Int))
     have f1 := hR.out.frozenAt (2 * i + j)
     obtain ⟨ob, k2⟩ : ∃ x, wr.cell? ⟨g, 2 * i + j, none⟩ = some x := by
      rw [hR.out.cellAt (2 * i + j) (by omega)]
      exact ⟨_, List.getElem?_eq_getElem (by simp [hvq.out]; omega)⟩
     have ei : i * 2 = 2 * i := Nat.mul_comm _ _
     have hSq := Aside0.mk hS
     have hKq := Aside0.mk hK2
     clear hS hK2 hv hp
     have hUw := hUwq.out
     have hjw := hjwq.out
     go_wp2_with fail
     clear hUw hjw
     go_roundg (2 - (j + 1))
     case measure => have := hz.out; omega
     case rel => exact ⟨j + 1, U + 1, (by first | rfl | rw [← hUwq.out]), (by first | rfl | rw [← hjwq.out]), ⟨by have := hU.out; omega⟩, ⟨rfl⟩, by omega, hSq, hKq⟩
    ·have hj1 : ((j : Int) < 2) = False := eq_false (by omega)
     have he : j = 2 := by omega
     have hUe : Aside0 (U = k + 2 * (i + 1)) := ⟨by have := hU.out; omega⟩
     have hi2 : Aside0 (i + 1 ≤ n) := ⟨by have := hiq.out; omega⟩
     have hR2 := hR.out
     have e2 : 2 * i + j = 2 * (i + 1) := by omega
     rw [e2] at hR2
     have hR3 := Aside0.mk hR2
     clear hR2 e2 he
     have hswq := Aside0.mk hsw
     go_wp2_with fail
     clear hsw
     go_roundg (n - (i + 1))
     case measure => have := hq.out; have := hiq.out; omega
     case rel => exact ⟨i + 1, U, rfl, (by first | rfl | rw [← hswq.out]), hUe, ⟨rfl⟩, hi2.out, hR3, hK⟩
  ·have hi1 : ((i : Int) < (n : Int)) = False := eq_false (by omega)
   have he : i = n := by omega
   have hR2 := hR.out
   rw [he, List.drop_of_length_le (by rw [hvq.out]; exact Nat.le_refl _), List.append_nil] at hR2
   have hTE : T = E := by rw [hT.out, he, hEq.out]
   go_wp2_with fail
   go_ret
   exact ⟨by rw [← hTE]; rfl, hR2, hK.out⟩
set_option maxHeartbeats 2000000 in
set_option maxRecDepth 100000 in
theorem heldI2 (k n : Nat) (A : Option Addr) (c : Nat) (w : World) (base : Nat) (h : w.ownsRow base 78 2 (.slice A n c) n (mV (vI k) (2 * n))) (hk : k + 2 * n ≤ 1000000000) :
  Calls Tryd.prog 48 #[.slice A n c, .int .i64 (k : Int)] w fun e w' => e = .returned (.int .i64 ((k + 2 * n : Nat) : Int)) ∧ Below w.heap.size w w' := by
 have h0 := Aside0.mk h
 have hkq := Aside0.mk hk
 obtain ⟨E, hE⟩ : ∃ E, k + 2 * n = E := ⟨_, rfl⟩
 have hEq := Aside0.mk hE
 rw [hE]
 clear h hk hE
 go_enter Tryd.func48, Tryd.ntmps48
 go_wp2_with fail
 go_loopg [1, 5] n (fun kq v1 v5 W => ∃ i T : Nat, v1 = .int .i64 (T : Int) ∧ v5 = .int .i64 (i : Int) ∧ Aside0 (T = k + 2 * i) ∧ Aside0 (kq = n - i) ∧ i ≤ n ∧ Aside0 (Below w.heap.size w W))
 case atStart => exact ⟨0, k, rfl, rfl, ⟨rfl⟩, ⟨rfl⟩, Nat.zero_le _, ⟨Below.refl _ _⟩⟩
 case round =>
  obtain ⟨i, T, rfl, rfl, hT, hq, hil, hB⟩ := hrel
  by_cases hi : i < n
  ·have hi1 : ((i : Int) < (n : Int)) = True := eq_true (by omega)
   have h0i : (0 ≤ (i : Int)) = True := eq_true (by omega)
   obtain ⟨g, rfl, hgb, _⟩ := own_g h0.out (by omega)
   have hiq := Aside0.mk hi
   have hsw : wrap64 ((i : Int) + 1) = ((i + 1 : Nat) : Int) := wrapN (by have := hkq.out; omega)
   clear hgb hi
   go_wp2_with fail
   go_loopg [1, 6] 2 (fun kz v1 v6 W => ∃ j U : Nat, v1 = .int .i64 (U : Int) ∧ v6 = .int .i64 (j : Int) ∧ Aside0 (U = k + 2 * i + j) ∧ Aside0 (kz = 2 - j) ∧ j ≤ 2 ∧ Aside0 (Below w.heap.size w W))
   case atStart => exact ⟨0, T, rfl, rfl, ⟨hT.out⟩, ⟨rfl⟩, Nat.zero_le _, hB⟩
   case round =>
    clear hB
    obtain ⟨j, U, rfl, rfl, hU, hz, hj2, hB⟩ := hrel
    by_cases hj : j < 2
    ·have hj1 : ((j : Int) < 2) = True := eq_true (by omega)
     have h0j : (0 ≤ (j : Int)) = True := eq_true (by omega)
     have hUw : wrap64 ((U : Int) + 1) = ((U + 1 : Nat) : Int) := wrapN (by have := hkq.out; have := hU.out; have := hiq.out; clear hsw; omega)
     have hjw : wrap64 ((j : Int) + 1) = ((j + 1 : Nat) : Int) := wrapN (by clear hsw hUw; omega)
     have hUwq := Aside0.mk hUw
     have hjwq := Aside0.mk hjw
     have hswq := Aside0.mk hsw
     clear hUw hjw hsw
     have hp : 2 * i + j < 2 * n := by have := hiq.out; omega
     have hR := own_move h0.out (w1 := wr) (fun b hb => hB.out.block b (own_lt h0.out b hb))
     have k2 := hR.cellAt (2 * i + j) (by omega)
     have ev : (mV (vI k) (2 * n))[2 * i + j]? = some (.int .i64 (U : Int)) := by
      unfold mV
      rw [List.getElem?_map, List.getElem?_range hp]
      show some (vI k (2 * i + j)) = _
      unfold vI
      rw [hU.out, Nat.add_assoc]
     rw [ev] at k2
     have ei : i * 2 = 2 * i := Nat.mul_comm _ _
     have hBq := hB
     have hUU : ((U : Int) != (U : Int)) = false := by simp
     clear hR ev hp
     have hUw := hUwq.out
     have hjw := hjwq.out
     go_wp2_with fail
     clear hUw hjw
     go_roundg (2 - (j + 1))
     case measure => have := hz.out; omega
     case rel => exact ⟨j + 1, U + 1, (by first | rfl | rw [← hUwq.out]), (by first | rfl | rw [← hjwq.out]), ⟨by have := hU.out; omega⟩, ⟨rfl⟩, by omega, hBq⟩
    ·have hj1 : ((j : Int) < 2) = False := eq_false (by omega)
     have hUe : Aside0 (U = k + 2 * (i + 1)) := ⟨by have := hU.out; omega⟩
     have hi2 : Aside0 (i + 1 ≤ n) := ⟨by have := hiq.out; omega⟩
     have hswq := Aside0.mk hsw
     go_wp2_with fail
     clear hsw
     go_roundg (n - (i + 1))
     case measure => have := hq.out; have := hiq.out; omega
     case rel => exact ⟨i + 1, U, rfl, (by first | rfl | rw [← hswq.out]), hUe, ⟨rfl⟩, hi2.out, hB⟩
  ·have hi1 : ((i : Int) < (n : Int)) = False := eq_false (by omega)
   have he : i = n := by omega
   have hTE : T = E := by rw [hT.out, he, hEq.out]
   go_wp2_with fail
   go_ret
   exact ⟨by rw [← hTE]; rfl, hB.out⟩
end Go.Proofs.YtnjdkhnepmmfgaaDoor.Mk2
