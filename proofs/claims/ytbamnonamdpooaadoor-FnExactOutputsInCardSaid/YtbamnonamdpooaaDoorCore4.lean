/- Parts of the proof, put together by a program of the session. -/
import Derived.Test.YtbamnonamdpooaaDoorCore0
import Derived.Test.YtbamnonamdpooaaDoorCore3
import Derived.Test.YtbamnonamdpooaaDoorCore1
import Derived.Test.YtbamnonamdpooaaDoorCore2
import Derived.Test.YtbamnonamdpooaaDoorProg
import Derived.Below
import Derived.Deep.Draws
import Derived.Deep.AppendLies
import Derived.Maps.AppendAt
import Derived.OwnWalk
import Derived.Laws.BytesArg
import Derived.Laws.MakeOwn
import Derived.Laws.OwnMore
import Derived.Deep.OwnRows
import Derived.Tactics
import Derived.Lib.ConvBytes
import Derived.Laws.Slices
import Derived.WalkKit
import Derived.KernelRfl
import Derived.RowKit3
import Derived.Deep.LoopGhost
import Derived.Deep.QuietTactic
import Derived.BigQuiet
import Derived.WideLaws
import Derived.Deep.DeepCutAuto
import Derived.Deep.CutBlock
import Derived.Deep.RegionHeld3
import Derived.Laws.Rows
import Derived.Lib.AppendStr
import Derived.ArgAppend
import Derived.Laws.IdiomCopy
import Derived.OrdersHeld
import Derived.Laws.BitsLemmas
import Derived.RowKit
import Derived.ChangeKeysEq
import Derived.Test.YtbamnonamdpooaaDoorCWords
import Derived.Test.YtbamnonamdpooaaDoorCLast
import Derived.Test.YtbamnonamdpooaaDoorCTab
import Derived.Test.YtbamnonamdpooaaDoorCFour
import Derived.Test.YtbamnonamdpooaaDoorCQPut
import Derived.Test.YtbamnonamdpooaaDoorCApart
import Derived.Test.YtbamnonamdpooaaDoorCArr
import Derived.Test.YtbamnonamdpooaaDoorCZeros
import Derived.Test.YtbamnonamdpooaaDoorCFoot
import Derived.Test.YtbamnonamdpooaaDoorCKept
import Derived.Test.YtbamnonamdpooaaDoorCShare
import Derived.Test.YtbamnonamdpooaaDoorCN
import Derived.Test.YtbamnonamdpooaaDoorCFootNe
import Derived.Test.YtbamnonamdpooaaDoorCAt
import Derived.Test.YtbamnonamdpooaaDoorCEqStruct
import Derived.Test.YtbamnonamdpooaaDoorCRepsOne
import Derived.Test.YtbamnonamdpooaaDoorCInv
import Derived.Test.YtbamnonamdpooaaDoorCInvWords
import Derived.Test.YtbamnonamdpooaaDoorCGuard
import Derived.Test.YtbamnonamdpooaaDoorCNEv
import Derived.Test.YtbamnonamdpooaaDoorCMore
namespace Go.Proofs.YtbamnonamdpooaaDoor.Tr
set_option linter.unusedVariables false
set_option linter.unusedSimpArgs false
open Go.RowKit Go.Proofs.YtbamnonamdpooaaDoorW.PrintWords Go.Proofs.YtbamnonamdpooaaDoorW.PrintLast Go.Proofs.YtbamnonamdpooaaDoorW.PrintMore Kp Mg Mk Tdy Td Rg Ti Tf PB1 Tid
structure RRes where
 t : Int
 s : Int
 a : List Bool
 b : List (List Int)
 c : Int
def bad (c : Int) : RRes := ⟨0, 0, [], [], c⟩
def toldR (t : Int) (a : List Bool) (b : List (List Int)) : RRes := if a.length ≤ 150 then ⟨t, 0, a, b, 0⟩ else bad 3
/-- A relation of its own, and a code, are returned. -/
def Gives (R : RRes) (w0 : World) (e : Ending) (w' : World) : Prop := ∃ A2 c2 A3 c3, e = .returned (.tuple #[.agg #[.int .i64 R.t, .int .i64 R.s, .slice A2 R.a.length c2, .slice A3 R.b.length c3], .int .i64 R.c]) ∧ Rel w' w0.heap.size (fun _ => True) A2 c2 R.a A3 c3 R.b ∧ Below w0.heap.size w0 w'
theorem gives_bad {c : Int} {w0 w' : World} {e : Ending} (he : e = .returned (.tuple #[.agg #[.int .i64 0, .int .i64 0, .slice none 0 0, .slice none 0 0], .int .i64 c])) (hb : Below w0.heap.size w0 w') : Gives (bad c) w0 e w' :=
 ⟨none, 0, none, 0, he, ⟨Kd.R_nil _ _ _ _ _, Kd.S_nil _ _ _ _ _⟩, hb⟩
theorem tidy_calls (t s : Nat) (accs : List Bool) (rows : List (List Nat)) (ht1 : 0 < t) (ht2 : t < 4) (hs : s < rows.length) (hcl : Closed (wdOf t) rows accs) (hn : rows.length ≤ 100000) (w : World) (hG : Glob w) (AA : Option Addr) (ca : Nat) (AN : Option Addr) (cn : Nat)
  (hA : Kd.C Kd.bool w AA accs.length accs) (hN : Kd.C (Kd.slice 3 (Kd.int .i64)) w AN rows.length (rows.map ints)) (hca : accs.length ≤ ca) (hcn : rows.length ≤ cn) :
  Calls Tryd.prog 114 #[.agg #[.int .i64 (t : Int), .int .i64 (s : Int), .slice AA accs.length ca, .slice AN rows.length cn]] w fun e w' => ∃ vA vN, e = .returned (.agg #[.int .i64 (t : Int), .int .i64 0, vA, vN]) ∧
   Kd.R Kd.bool 4 w' w.heap.size (fun _ => True) vA (tidL (wdOf t) rows accs s (padT t)).1 ∧ Kd.R (Kd.slice 3 (Kd.int .i64)) 97 w' w.heap.size (fun _ => True) vN ((tidL (wdOf t) rows accs s (padT t)).2.map ints) ∧ Below w.heap.size w w' :=
 Td.tidy It.T It.T_size It.Glob It.glob_below It.itoa It.inj t (by omega) s accs rows (wdOf t) (wd_pos _ ht2 ht1) (by have := wd_le _ ht2; omega) hcl hn hs
  (fun W => (impl_widthOf.calls 10 _ _ W (fin_wide _ ht2).1).mono (fun e W' hh => ⟨hh.1, hh.2.below⟩)) (digs t) (fun c _ => digs_len _ _) (fun c _ => digs_lt _ _)
  (fun W c hc => (impl_digitsOf.calls 10 _ _ _ W (fin_digs _ ht2 c (by have := wd_le _ ht2; omega))).mono (fun e W' hh => by obtain ⟨v, h1, h2, h3⟩ := hh; exact ⟨v, h1, h2, h3⟩))
  w hG AA ca AN cn hA hN hca hcn _ _ (made_tidied (Ti.made hcl hs (fun c hc => Nat.lt_of_lt_of_le (fin_pad t ht2 c (by have := wd_le t ht2; omega)) (two_pow ht2).2)))
/-- The tidy machine is right. -/
theorem tid_good {t s : Nat} {accs : List Bool} {rows : List (List Nat)} (ht2 : t < 4) (hs : s < rows.length) (hcl : Closed (wdOf t) rows accs) :
  Closed (wdOf t) (tidL (wdOf t) rows accs s (padT t)).2 (tidL (wdOf t) rows accs s (padT t)).1 ∧ 0 < (tidL (wdOf t) rows accs s (padT t)).2.length ∧ (tidL (wdOf t) rows accs s (padT t)).2.length ≤ 8 * rows.length + 1 := by
 have h := made_good (Ti.made hcl hs (fun c hc => Nat.lt_of_lt_of_le (fin_pad t ht2 c (by have := wd_le t ht2; omega)) (two_pow ht2).2))
 exact ⟨h.1, h.2.1, h.2.2.1⟩
set_option maxHeartbeats 4000000 in
theorem tidied (t s : Nat) (accs : List Bool) (rows : List (List Nat)) (ht1 : 0 < t) (ht2 : t < 4) (hs : s < rows.length) (hcl : Closed (wdOf t) rows accs) (hn : rows.length ≤ 100000) (w : World) (hG : Glob w) (AA : Option Addr) (ca : Nat) (AN : Option Addr) (cn : Nat)
  (hA : Kd.C Kd.bool w AA accs.length accs) (hN : Kd.C (Kd.slice 3 (Kd.int .i64)) w AN rows.length (rows.map ints)) (hca : accs.length ≤ ca) (hcn : rows.length ≤ cn) :
  Calls Tryd.prog 70 #[.agg #[.int .i64 (t : Int), .int .i64 (s : Int), .slice AA accs.length ca, .slice AN rows.length cn]] w (Gives (toldR (t : Int) (tidL (wdOf t) rows accs s (padT t)).1 ((tidL (wdOf t) rows accs s (padT t)).2.map ints)) w) := by
 obtain ⟨hg1, hg2, hg3⟩ := tid_good (s := s) ht2 hs hcl
 have hwd := wd_le t ht2
 have htc := fun W (hb : Below w.heap.size w W) => tidy_calls t s accs rows ht1 ht2 hs hcl hn W (glob_below hG hb) AA ca AN cn (Kd.C_below hA hb) (Kd.C_below hN hb) hca hcn
 obtain ⟨M, hM⟩ : ∃ M, tidL (wdOf t) rows accs s (padT t) = M := ⟨_, rfl⟩
 rw [hM] at hg1 hg2 hg3 htc ⊢
 have hlen := hg1.len
 have hwide := hg1.wide
 clear hM hcl hA hN hG hg1
 have htq := Aside0.mk htc
 have hb0 := below_alloc (below_alloc (Below.refl w.heap.size w) (.cells #[.int .i64 (t : Int), .int .i64 (s : Int), .slice AA accs.length ca, .slice AN rows.length cn] 77)) (.cells #[.int .i64 0, .int .i64 0, .slice none 0 0, .slice none 0 0] 29)
 have bR : ((w.alloc (.cells #[.int .i64 (t : Int), .int .i64 (s : Int), .slice AA accs.length ca, .slice AN rows.length cn] 77)).alloc (.cells #[.int .i64 0, .int .i64 0, .slice none 0 0, .slice none 0 0] 29)).heap[w.heap.size + 1]? = some (.cells #[.int .i64 0, .int .i64 0, .slice none 0 0, .slice none 0 0] 29 (0, 0)) := blk_at _ _ _ (by simp)
 clear htc
 by_cases hc : M.1.length ≤ 150
 ·have hlq := Aside0.mk hlen
  have hwq := Aside0.mk hwide
  have e : toldR (t : Int) M.1 (M.2.map ints) = ⟨(t : Int), 0, M.1, M.2.map ints, 0⟩ := if_pos hc
  rw [e]
  clear e hlen hwide
  go_enter Tryd.func70, Tryd.ntmps70
  go_wp2_with (first
   | (go_at_call 114; go_loud (
     with_reducible refine (htq.out _ hb0).mono ?_
     rintro e w2 ⟨vA, vN, rfl, q2, q3, hb2⟩
     obtain ⟨B2, d2, e2, hd2, hC2⟩ := Kd.R_reads q2
     subst e2
     obtain ⟨B3, d3, e3, hd3, hC3⟩ := Kd.R_reads q3
     rw [List.length_map] at e3 hC3
     subst e3
     have hB2 := below_step hb0 hb2))
   | (go_at_call 125; go_loud (
     have q := Ro.relationOf (t : Int) M.1 (M.2.map ints) (by have := hlq.out; omega) hc (by rw [List.length_map]; have := hlq.out; omega) (by
      intro r hr
      obtain ⟨x, hx, rfl⟩ := List.mem_map.1 hr
      rw [ints_length, hwq.out x hx]
      omega) w2 B2 d2 B3 d3 hC2 (by rw [List.length_map]; exact hC3)
     rw [List.length_map] at q
     with_reducible refine q.mono ?_
     rintro e w3 ⟨A2, c2, A3, c3, rfl, hR, hb3⟩
     have b0 := blk_below (blk_below bR hb2) hb3
     have hB3 := below_step hB2 hb3
     have e0 : w3.cell? ⟨w.heap.size + 1, 0, none⟩ = some (.int .i64 0) := (blk_cell b0 0).trans rfl
     have e1 : w3.cell? ⟨w.heap.size + 1, 1, none⟩ = some (.int .i64 0) := (blk_cell b0 1).trans rfl
     have e2 : w3.cell? ⟨w.heap.size + 1, 2, none⟩ = some (.slice none 0 0) := (blk_cell b0 2).trans rfl
     have e3 : w3.cell? ⟨w.heap.size + 1, 3, none⟩ = some (.slice none 0 0) := (blk_cell b0 3).trans rfl
     have f0 : w3.frozen? ⟨w.heap.size + 1, 0, none⟩ = false := blk_frozen b0 0
     have f1 : w3.frozen? ⟨w.heap.size + 1, 1, none⟩ = false := blk_frozen b0 1
     have f2 : w3.frozen? ⟨w.heap.size + 1, 2, none⟩ = false := blk_frozen b0 2
     have f3 : w3.frozen? ⟨w.heap.size + 1, 3, none⟩ = false := blk_frozen b0 3)))
  have b1 := blk_put b0 0 (.int .i64 (t : Int)) rfl
  have b2 := blk_put b1 1 (.int .i64 0) rfl
  have b3 := blk_put b2 2 (.slice A2 M.1.length c2) rfl
  have b4 := blk_put b3 3 (.slice A3 M.2.length c3) rfl
  refine bodyPost_ret (results_ct rfl _ _ (w.heap.size + 1) 29 #[.int .i64 (t : Int), .int .i64 0, .slice A2 M.1.length c2, .slice A3 M.2.length c3] (0, 0) _ rfl b4 Tryd.underlying29 rfl (by kernel_rfl)) rfl ⟨A2, c2, A3, c3, by rw [List.length_map]; rfl, ⟨?_, ?_⟩, ?_⟩
  ·have hR2 := hR.r2
   exact Kd.R_lower (Kd.R_set (Kd.R_set (Kd.R_set (Kd.R_set hR2 b0 (by decide) 0 _) b1 (by decide) 1 _) b2 (by decide) 2 _) b3 (by decide) 3 _) (Below.size hB2)
  ·have hR3 := hR.r3
   exact Kd.S_lower (Kd.S_set (Kd.S_set (Kd.S_set (Kd.S_set hR3 b0 (by decide) 0 _) b1 (by decide) 1 _) b2 (by decide) 2 _) b3 (by decide) 3 _) (Below.size hB2)
  ·exact (((hB3.setCell (by simp) _).setCell (by simp) _).setCell (by simp) _).setCell (by simp) _
 ·have e : toldR (t : Int) M.1 (M.2.map ints) = bad 3 := if_neg hc
  rw [e]
  clear e hlen hwide
  go_enter Tryd.func70, Tryd.ntmps70
  go_wp2_with (first
   | (go_at_call 114; go_loud (
     with_reducible refine (htq.out _ hb0).mono ?_
     rintro e w2 ⟨vA, vN, rfl, q2, q3, hb2⟩
     obtain ⟨B2, d2, e2, hd2, hC2⟩ := Kd.R_reads q2
     subst e2
     obtain ⟨B3, d3, e3, hd3, hC3⟩ := Kd.R_reads q3
     rw [List.length_map] at e3 hC3
     subst e3
     have hB2 := below_step hb0 hb2))
   | (go_at_call 125; go_loud (
     with_reducible refine (Ro.relationOf_big (t : Int) M.1.length M.2.length (by omega) w2 B2 d2 B3 d3).mono ?_
     rintro e w3 ⟨rfl, hb3⟩
     have b0 := blk_below (blk_below bR hb2) hb3
     have hB3 := below_step hB2 hb3
     have e0 : w3.cell? ⟨w.heap.size + 1, 0, none⟩ = some (.int .i64 0) := (blk_cell b0 0).trans rfl
     have e1 : w3.cell? ⟨w.heap.size + 1, 1, none⟩ = some (.int .i64 0) := (blk_cell b0 1).trans rfl
     have e2 : w3.cell? ⟨w.heap.size + 1, 2, none⟩ = some (.slice none 0 0) := (blk_cell b0 2).trans rfl
     have e3 : w3.cell? ⟨w.heap.size + 1, 3, none⟩ = some (.slice none 0 0) := (blk_cell b0 3).trans rfl
     have f0 : w3.frozen? ⟨w.heap.size + 1, 0, none⟩ = false := blk_frozen b0 0
     have f1 : w3.frozen? ⟨w.heap.size + 1, 1, none⟩ = false := blk_frozen b0 1
     have f2 : w3.frozen? ⟨w.heap.size + 1, 2, none⟩ = false := blk_frozen b0 2
     have f3 : w3.frozen? ⟨w.heap.size + 1, 3, none⟩ = false := blk_frozen b0 3)))
  have b1 := blk_put b0 0 (.int .i64 0) rfl
  have b2 := blk_put b1 1 (.int .i64 0) rfl
  have b3 := blk_put b2 2 (.slice none 0 0) rfl
  have b4 := blk_put b3 3 (.slice none 0 0) rfl
  refine bodyPost_ret (results_ct rfl _ _ (w.heap.size + 1) 29 #[.int .i64 0, .int .i64 0, .slice none 0 0, .slice none 0 0] (0, 0) _ rfl b4 Tryd.underlying29 rfl (by kernel_rfl)) rfl (gives_bad rfl ?_)
  exact (((hB3.setCell (by simp) _).setCell (by simp) _).setCell (by simp) _).setCell (by simp) _
set_option maxHeartbeats 4000000 in
/-- The reference's: a tidy relation that must not have too many states. -/
theorem told (t : Int) (a : List Bool) (b : List (List Int)) (w : World) (A2 : Option Addr) (c2 : Nat) (A3 : Option Addr) (c3 : Nat) (N : Nat) (hNw : N ≤ w.heap.size) (w0 : World) (hw0 : w0.heap.size = N) (hb : Below N w0 w) (hR : Rel w N (fun _ => True) A2 c2 a A3 c3 b) :
  Calls Tryd.prog 62 #[.agg #[.int .i64 t, .int .i64 0, .slice A2 a.length c2, .slice A3 b.length c3]] w (fun e w' => Gives (toldR t a b) w0 e w' ∧ Below w.heap.size w w') := by
 subst hw0
 have hszz : w0.heap.size ≤ w.heap.size + 1 := by omega
 have m2 : ((w.alloc (.cells #[.int .i64 t, .int .i64 0, .slice A2 a.length c2, .slice A3 b.length c3] 29)).alloc (.cells #[.int .i64 0, .int .i64 0, .slice none 0 0, .slice none 0 0] 29)).cell? ⟨w.heap.size, 2, none⟩ = some (.slice A2 a.length c2) := (blk_cell (blk_alloc (blk_new w (.cells #[.int .i64 t, .int .i64 0, .slice A2 a.length c2, .slice A3 b.length c3] 29)) (.cells #[.int .i64 0, .int .i64 0, .slice none 0 0, .slice none 0 0] 29)) 2).trans rfl
 by_cases hc : a.length ≤ 150
 ·have e : toldR t a b = ⟨t, 0, a, b, 0⟩ := if_pos hc
  rw [e]
  have hlt : ((150 : Int) < (a.length : Int)) = False := eq_false (by omega)
  have hb0 := below_alloc (below_alloc (Below.refl w.heap.size w) (.cells #[.int .i64 t, .int .i64 0, .slice A2 a.length c2, .slice A3 b.length c3] 29)) (.cells #[.int .i64 t, .int .i64 0, .slice A2 a.length c2, .slice A3 b.length c3] 29)
  go_enter Tryd.func62, Tryd.ntmps62
  go_wp2_with fail
  refine bodyPost_ret (results_ct rfl _ _ (w.heap.size + 1) 29 #[.int .i64 t, .int .i64 0, .slice A2 a.length c2, .slice A3 b.length c3] (0, 0) _ rfl (blk_at _ _ _ (by simp)) Tryd.underlying29 rfl (by kernel_rfl)) rfl ⟨⟨A2, c2, A3, c3, rfl, hR.below hb0, hb.trans (hb0.mono hNw)⟩, hb0⟩
 ·have e : toldR t a b = bad 3 := if_neg hc
  rw [e]
  have hlt : ((150 : Int) < (a.length : Int)) = True := eq_true (by omega)
  have hb0 := below_alloc (below_alloc (Below.refl w.heap.size w) (.cells #[.int .i64 t, .int .i64 0, .slice A2 a.length c2, .slice A3 b.length c3] 29)) (.cells #[.int .i64 0, .int .i64 0, .slice none 0 0, .slice none 0 0] 29)
  go_enter Tryd.func62, Tryd.ntmps62
  go_wp2_with fail
  refine bodyPost_ret (results_ct rfl _ _ (w.heap.size + 1) 29 #[.int .i64 0, .int .i64 0, .slice none 0 0, .slice none 0 0] (0, 0) _ rfl (blk_at _ _ _ (by simp)) Tryd.underlying29 rfl (by kernel_rfl)) rfl ⟨gives_bad rfl (hb.trans (hb0.mono hNw)), hb0⟩
end Go.Proofs.YtbamnonamdpooaaDoor.Tr
namespace Go.Proofs.YtbamnonamdpooaaDoor.Sq
set_option linter.unusedVariables false
set_option linter.unusedSimpArgs false
open Go Go.RowKit Go.Proofs.YtbamnonamdpooaaDoorW.PrintWords Go.Proofs.YtbamnonamdpooaaDoorW.PrintLast Go.Proofs.YtbamnonamdpooaaDoorW.PrintMore Kp Mg Mk Sm Tdy Wi Tf PB1 PW2 Rg Tr Tid Ti
/-- The set of the first state. -/
def startS (n : Nat) : List Bool := (List.replicate n false).set 0 true
theorem startS_length (n : Nat) : (startS n).length = n := by simp [startS]
theorem idx_start {n : Nat} (h : 0 < n) : idx (startS n) = [0] := by
 unfold idx startS
 rw [List.length_set, List.length_replicate]
 obtain ⟨m, rfl⟩ : ∃ m, n = m + 1 := ⟨n - 1, by omega⟩
 rw [List.range_succ_eq_map, List.filter_cons, List.replicate_succ, List.set_cons_zero]
 rw [if_pos (by rfl), List.filter_map]
 have : (List.range m).filter ((fun q => (true :: List.replicate m false).getD q false) ∘ Nat.succ) = [] := by
  rw [List.filter_eq_nil_iff]
  intro q hq
  simp [List.getD_eq_getElem?_getD, List.getElem?_replicate]
  split <;> simp
 rw [this]
 rfl
/-- The relation with some word on a tape. -/
noncomputable def someR (t tp : Nat) (a : List Bool) (rows : List (List Nat)) : RRes :=
 match meet rows (colT t tp) (wdOf (t - 1)) 1000 (startS rows.length) with
 | some (l, rws) => toldR ((t - 1 : Nat) : Int) (tidL (wdOf (t - 1)) rws (l.map (accS rows a (colT t tp (wdOf (t - 1)) 0) (colT t tp (wdOf (t - 1)) 1))) 0 (padT (t - 1))).1 ((tidL (wdOf (t - 1)) rws (l.map (accS rows a (colT t tp (wdOf (t - 1)) 0) (colT t tp (wdOf (t - 1)) 1))) 0 (padT (t - 1))).2.map ints)
 | none => bad 3
/-- .. whose sets make a right machine. -/
theorem meet_closed {rows : List (List Nat)} {col : Nat → Nat → Nat} {wd f : Nat} {start : List Bool} {l : List (List Bool)} {rws : List (List Nat)} (h : bfs id (nextS rows col) (List.range wd) 1000 f 0 [start] [] = some (some (l, rws))) (acc : List Bool → Bool) : Closed wd rws (l.map acc) ∧ 0 < rws.length ∧ rws.length ≤ 1000 := by
 obtain ⟨hd, m, hm2⟩ := bfs_done _ 0 [start] [] l rws h (Nat.zero_le _) rfl (List.pairwise_singleton _ _) (fun r hr => by cases hr) (fun i hi => by cases hi)
 have hl0 : 0 < l.length := by rw [hm2]; simp
 have hle := bfs_len (by decide) f 0 [start] [] l rws (by simp) h
 exact ⟨done_closed _ hd, by rw [hd.len]; exact hl0, by rw [hd.len]; exact hle⟩
def lists (sets : List (List Bool)) : List (List Int) := sets.map (fun s => ints (idx s))
theorem lists_length (sets : List (List Bool)) : (lists sets).length = sets.length := by simp [lists]
/-- What stands in memory; x: the row that is made. -/
structure Sx (w0 : World) (g0 t n gR : Nat) (B2 : Option Addr) (d2 : Nat) (B3 : Option Addr) (d3 u gX : Nat) (vS : Value) (sets : List (List Bool)) (x : Option Nat) (vA : Value) (bs : List Bool) (vN : Value) (rws : List (List Nat)) (W : World) : Prop where
 b0 : W.heap[g0]? = some (.cells #[.int .i64 0, .int .i64 0, .slice none 0 0, .slice none 0 0] 29 (0, 0))
 bT : W.heap[gR]? = some (.cells #[.int .i64 (t : Int), .int .i64 0, .slice B2 n d2, .slice B3 n d3] 29 (0, 0))
 bX : W.heap[gX]? = some (.cells #[.int .i64 (u : Int), .int .i64 0, vA, vN] 29 (0, 0))
 acc : Kd.R Kd.bool 4 W w0.heap.size (fun _ => True) vA bs
 nxt : Kd.R Row 86 W w0.heap.size (fun k => (True ∧ some k ≠ vS.ownBlock) ∧ some k ≠ x) vN (rws.map ints)
 set : Kd.R Row 86 W w0.heap.size (fun k => (True ∧ some k ≠ vN.ownBlock) ∧ some k ≠ x) vS (lists sets)
 bel : Below w0.heap.size w0 W
 ne : gR ≠ gX ∧ g0 ≠ gX ∧ w0.heap.size ≤ gX
/-- .. while a row is made. -/
structure Sy (w0 : World) (g0 t n gR : Nat) (B2 : Option Addr) (d2 : Nat) (B3 : Option Addr) (d3 u gX : Nat) (vS : Value) (sets : List (List Bool)) (vr : Value) (r : List Nat) (vA : Value) (bs : List Bool) (vN : Value) (rws : List (List Nat)) (W : World) : Prop where
 g : Sx w0 g0 t n gR B2 d2 B3 d3 u gX vS sets vr.ownBlock vA bs vN rws W
 row : Kd.R (Kd.int .i64) 2 W w0.heap.size (fun k => (True ∧ some k ≠ vS.ownBlock) ∧ some k ≠ vN.ownBlock) vr (ints r)
section
variable {w0 : World} {g0 t u n d2 d3 gR gX : Nat} {B2 B3 : Option Addr} {vS vA vN vr : Value} {sets : List (List Bool)} {bs : List Bool} {rws : List (List Nat)} {r : List Nat} {x : Option Nat} {W W' : World}
theorem Sx.step (h : Sx w0 g0 t n gR B2 d2 B3 d3 u gX vS sets x vA bs vN rws W) (hb : Below W.heap.size W W') : Sx w0 g0 t n gR B2 d2 B3 d3 u gX vS sets x vA bs vN rws W' :=
 ⟨blk_below h.b0 hb, blk_below h.bT hb, blk_below h.bX hb, Kd.R_below h.acc hb, Kd.R_below h.nxt hb, Kd.R_below h.set hb, below_step h.bel hb, h.ne⟩
theorem Sy.step (h : Sy w0 g0 t n gR B2 d2 B3 d3 u gX vS sets vr r vA bs vN rws W) (hb : Below W.heap.size W W') : Sy w0 g0 t n gR B2 d2 B3 d3 u gX vS sets vr r vA bs vN rws W' := ⟨h.g.step hb, Kd.R_below h.row hb⟩
/-- A number is put behind the row. -/
theorem Sy.more (h : Sy w0 g0 t n gR B2 d2 B3 d3 u gX vS sets vr r vA bs vN rws W) {v1 : Value} {r' : List Nat} (hg : W.grownBy W' vr.ownBlock) (hat : v1.ownBlock = vr.ownBlock ∨ ∃ b, v1.ownBlock = some b ∧ W.heap.size ≤ b) (hR : Kd.R (Kd.int .i64) 2 W' w0.heap.size (fun k => (True ∧ some k ≠ vS.ownBlock) ∧ some k ≠ vN.ownBlock) v1 (ints r')) (hb : Below w0.heap.size w0 W') : Sy w0 g0 t n gR B2 d2 B3 d3 u gX vS sets v1 r' vA bs vN rws W' := by
 have hk := Keep.grown hg
 have o : ∀ E : List Nat, (∀ q ∈ E, q ≠ 2) → Off W vr.ownBlock E := fun E hE => Off.row h.row hE
 exact ⟨⟨hk.obj h.g.b0 (off_ne h.g.b0 (o _ (by decide))), hk.obj h.g.bT (off_ne h.g.bT (o _ (by decide))), hk.obj h.g.bX (off_ne h.g.bX (o _ (by decide))), R_off h.g.acc hk (o _ (by decide)), Kd.R_after h.g.nxt hg hat, Kd.R_after h.g.set hg hat, hb, h.g.ne⟩, hR⟩
/-- A set is put behind the others. -/
theorem Sy.add (h : Sy w0 g0 t n gR B2 d2 B3 d3 u gX vS sets vr r vA bs vN rws W) {v1 : Value} {sets' : List (List Bool)} (hg : W.grownBy W' vS.ownBlock) (hat : v1.ownBlock = vS.ownBlock ∨ ∃ b, v1.ownBlock = some b ∧ W.heap.size ≤ b) (hR : Kd.R Row 86 W' w0.heap.size (fun k => (True ∧ some k ≠ vN.ownBlock) ∧ some k ≠ vr.ownBlock) v1 (lists sets')) (hb : Below w0.heap.size w0 W') : Sy w0 g0 t n gR B2 d2 B3 d3 u gX v1 sets' vr r vA bs vN rws W' := by
 have hk := Keep.grown hg
 have o : ∀ E : List Nat, (∀ q ∈ E, q ≠ 86) → Off W vS.ownBlock E := fun E hE => Off.row h.g.set hE
 have nx := Kd.R_mono h.g.nxt (ok' := fun k => (True ∧ some k ≠ vr.ownBlock) ∧ some k ≠ vS.ownBlock) (fun k hk => ⟨⟨trivial, hk.2⟩, hk.1.2⟩)
 have rw_ := Kd.R_mono h.row (ok' := fun k => (True ∧ some k ≠ vN.ownBlock) ∧ some k ≠ vS.ownBlock) (fun k hk => ⟨⟨trivial, hk.2⟩, hk.1.2⟩)
 exact ⟨⟨hk.obj h.g.b0 (off_ne h.g.b0 (o _ (by decide))), hk.obj h.g.bT (off_ne h.g.bT (o _ (by decide))), hk.obj h.g.bX (off_ne h.g.bX (o _ (by decide))), R_off h.g.acc hk (o _ (by decide)), Kd.R_mono (Kd.R_after nx hg hat) (fun k hk => ⟨⟨trivial, hk.2⟩, hk.1.2⟩), hR, hb, h.g.ne⟩,
  Kd.R_mono (Kd.R_after rw_ hg hat) (fun k hk => ⟨⟨trivial, hk.2⟩, hk.1.2⟩)⟩
/-- A mark is put behind the others. -/
theorem Sy.acc (h : Sy w0 g0 t n gR B2 d2 B3 d3 u gX vS sets vr r vA bs vN rws W) {v1 : Value} {bs' : List Bool} (hg : W.grownBy W' vA.ownBlock) (hR : Kd.R Kd.bool 4 W' w0.heap.size (fun _ => True) v1 bs') (hb : Below w0.heap.size w0 W') :
  W'.heap[gX]? = some (.cells #[.int .i64 (u : Int), .int .i64 0, vA, vN] 29 (0, 0)) ∧ Sy w0 g0 t n gR B2 d2 B3 d3 u gX vS sets vr r v1 bs' vN rws (W'.setCell ⟨gX, 2, none⟩ v1) := by
 have hk := Keep.grown hg
 have o : ∀ E : List Nat, (∀ q ∈ E, q ≠ 4) → Off W vA.ownBlock E := fun E hE => Off.row h.g.acc hE
 have bX := hk.obj h.g.bX (off_ne h.g.bX (o _ (by decide)))
 refine ⟨bX, ?_⟩
 have hs := Keep.set W' ⟨gX, 2, none⟩ v1
 have p : ∀ E : List Nat, (∀ q ∈ E, q ≠ 29) → Off W' (some gX) E := fun E hE => Off.cells bX hE
 have n0 : some g0 ≠ some gX := fun e => by injection e; exact h.g.ne.2.1 (by assumption)
 have n1 : some gR ≠ some gX := fun e => by injection e; exact h.g.ne.1 (by assumption)
 exact ⟨⟨hs.obj (hk.obj h.g.b0 (off_ne h.g.b0 (o _ (by decide)))) n0, hs.obj (hk.obj h.g.bT (off_ne h.g.bT (o _ (by decide)))) n1, blk_put bX 2 v1 rfl, R_off hR hs (p _ (by decide)), R_off (R_off h.g.nxt hk (o _ (by decide))) hs (p _ (by decide)), R_off (R_off h.g.set hk (o _ (by decide))) hs (p _ (by decide)), hb.setCell h.g.ne.2.2 _, h.g.ne⟩,
  R_off (R_off h.row hk (o _ (by decide))) hs (p _ (by decide))⟩
/-- The row is put behind the others. -/
theorem Sy.nxt (h : Sy w0 g0 t n gR B2 d2 B3 d3 u gX vS sets vr r vA bs vN rws W) {v1 : Value} {rws' : List (List Nat)} (hg : W.grownBy W' vN.ownBlock) (hat : v1.ownBlock = vN.ownBlock ∨ ∃ b, v1.ownBlock = some b ∧ W.heap.size ≤ b) (hR : Kd.R Row 86 W' w0.heap.size (fun k => True ∧ some k ≠ vS.ownBlock) v1 (rws'.map ints)) (hb : Below w0.heap.size w0 W') :
  W'.heap[gX]? = some (.cells #[.int .i64 (u : Int), .int .i64 0, vA, vN] 29 (0, 0)) ∧ Sx w0 g0 t n gR B2 d2 B3 d3 u gX vS sets none vA bs v1 rws' (W'.setCell ⟨gX, 3, none⟩ v1) := by
 have hk := Keep.grown hg
 have o : ∀ E : List Nat, (∀ q ∈ E, q ≠ 86) → Off W vN.ownBlock E := fun E hE => Off.row h.g.nxt hE
 have bX := hk.obj h.g.bX (off_ne h.g.bX (o _ (by decide)))
 refine ⟨bX, ?_⟩
 have hs := Keep.set W' ⟨gX, 3, none⟩ v1
 have p : ∀ E : List Nat, (∀ q ∈ E, q ≠ 29) → Off W' (some gX) E := fun E hE => Off.cells bX hE
 have n0 : some g0 ≠ some gX := fun e => by injection e; exact h.g.ne.2.1 (by assumption)
 have n1 : some gR ≠ some gX := fun e => by injection e; exact h.g.ne.1 (by assumption)
 have st := Kd.R_mono h.g.set (ok' := fun k => (True ∧ some k ≠ vr.ownBlock) ∧ some k ≠ vN.ownBlock) (fun k hk => ⟨⟨trivial, hk.2⟩, hk.1.2⟩)
 exact ⟨hs.obj (hk.obj h.g.b0 (off_ne h.g.b0 (o _ (by decide)))) n0, hs.obj (hk.obj h.g.bT (off_ne h.g.bT (o _ (by decide)))) n1, blk_put bX 3 v1 rfl, R_off (R_off h.g.acc hk (o _ (by decide))) hs (p _ (by decide)), Kd.R_mono (R_off hR hs (p _ (by decide))) (fun _ hk => ⟨⟨trivial, hk.2⟩, by simp⟩), Kd.R_mono (R_off (Kd.R_after st hg hat) hs (p _ (by decide))) (fun _ hk => ⟨⟨trivial, hk.2⟩, by simp⟩), hb.setCell h.g.ne.2.2 _, h.g.ne⟩
end
theorem nats_rows (l : List (List Nat)) : (l.map ints).map nats = l := by
 rw [List.map_map]
 conv => rhs; rw [← List.map_id l]
 refine List.map_congr_left (fun r _ => ?_)
 have : (r.map Int.ofNat).map Int.toNat = r := by
  rw [List.map_map]
  conv => rhs; rw [← List.map_id r]
  exact List.map_congr_left (fun x _ => by simp)
 exact this
theorem first_set (W : World) (base : Nat) (hb : base ≤ W.heap.size) (ok : Nat → Prop) (hok : ∀ k, ok k) : Kd.R Row 86 ((W.alloc (.cells #[.int .i64 0] 2)).alloc (.cells #[.slice (some ⟨W.heap.size, 0, none⟩) 1 1] 86)) base ok (.slice (some ⟨W.heap.size + 1, 0, none⟩) 1 1) [[0]] := by
 have h1 := R_one (Kd.int .i64) 2 W base hb (ok := fun _ => True) (okp := fun _ => False) (cs := [.int .i64 0]) (y := (0 : Int)) rfl (fun _ h => h.elim) trivial
 have h2 := R_one Row 86 (W.alloc (.cells #[.int .i64 0] 2)) base (by simp; omega) (ok := ok) (okp := fun _ => True) (cs := [.slice (some ⟨W.heap.size, 0, none⟩) 1 1]) (y := [0]) (Kd.M_row h1) (fun k _ => hok k) (hok _)
 have e : (W.alloc (.cells #[.int .i64 0] 2)).heap.size = W.heap.size + 1 := by simp
 rw [e] at h2
 exact h2
section
variable {w0 : World} {g0 t u n d2 d3 gR gX : Nat} {B2 B3 : Option Addr} {vS vA vN vr : Value} {sets : List (List Bool)} {bs : List Bool} {rws : List (List Nat)} {r : List Nat} {x : Option Nat} {W W' : World}
theorem Sx.born (h : Sx w0 g0 t n gR B2 d2 B3 d3 u gX vS sets none vA bs vN rws W) : Sy w0 g0 t n gR B2 d2 B3 d3 u gX vS sets (.slice (some ⟨W.heap.size, 0, none⟩) 0 0) [] vA bs vN rws (W.alloc (.cells #[] 2)) := by
 have hb := below_alloc (Below.refl W.heap.size W) (.cells #[] 2)
 have hz : SR (W.alloc (.cells #[] 2)) W.heap.size (.slice (some ⟨W.heap.size, 0, none⟩) 0 0) (ints []) := sr_zero W _ (Nat.le_refl _)
 refine ⟨⟨blk_below h.b0 hb, blk_below h.bT hb, blk_below h.bX hb, Kd.R_below h.acc hb, ?_, ?_, below_step h.bel hb, h.ne⟩, ?_⟩
 ·exact Kd.R_below (Kd.R_mono (Kd.R_bound h.nxt) (fun k hk => ⟨hk.1.1, fun e => by have e2 : k = W.heap.size := Option.some.inj e; have := hk.2.2.1; omega⟩)) hb
 ·exact Kd.R_below (Kd.R_mono (Kd.R_bound h.set) (fun k hk => ⟨hk.1.1, fun e => by have e2 : k = W.heap.size := Option.some.inj e; have := hk.2.2.1; omega⟩)) hb
 ·exact Kd.R_lower (Kd.R_mono (Kd.R_bound hz) (fun k hk => ⟨⟨trivial, fun e => by have := Kd.R_lt h.set k e.symm; have := hk.2.1; omega⟩, fun e => by have := Kd.R_lt h.nxt k e.symm; have := hk.2.1; omega⟩)) (Below.size h.bel)
end
theorem find_none_step {li : List (List Bool)} {S : List Bool} {k : Nat} (h : ∀ j, j < k → ∀ h : j < li.length, li[j] ≠ S) (hk : li.length ≤ k) : find id S li = none := by
 cases hf : find id S li with
 | none => rfl
 | some j =>
  obtain ⟨hj, e⟩ := find_some hf
  exact absurd e (h j (by omega) hj)
theorem find_first {κ : Type} [DecidableEq κ] {k : κ} {l : List κ} {i : Nat} (hi : i < l.length) (he : l[i] = k) (hno : ∀ x, x < i → ∀ h : x < l.length, l[x] ≠ k) : find id k l = some i := by
 induction l generalizing i with
 | nil => simp at hi
 | cons a l ih =>
  unfold find
  cases i with
  | zero => rw [if_pos (show id a = k from he)]
  | succ i =>
   rw [if_neg (show ¬ id a = k from hno 0 (by omega) (by simp)), ih (i := i) (by simpa using hi) (by simpa using he) (fun x hx hl => hno (x + 1) (by omega) (by simpa using hl))]
   rfl
theorem take_set {nxt : List Bool → Nat → List Bool} {cs : List Nat} {li : List (List Bool)} {i : Nat} (h : i < li.length) : (row id nxt li[i] cs li).1.take (i + 1) = li.take i ++ [li[i]] ∧ i + 1 ≤ (row id nxt li[i] cs li).1.length := by
 obtain ⟨m, hm⟩ := row_prefix (key := id) (nxt := nxt) (s := li[i]) cs li
 rw [hm]
 refine ⟨?_, by rw [List.length_append]; omega⟩
 rw [List.take_append_of_le_length (by omega), List.take_succ_eq_append_getElem h]
set_option maxHeartbeats 16000000 in
set_option maxRecDepth 100000 in
theorem someOn (gp : Nat) (t tp : Nat) (ht : t < 4) (ht2 : 2 ≤ t) (htp : tp < t) (s : Int) (A2 : Option Addr) (c2 : Nat) (a : List Bool) (A3 : Option Addr) (c3 : Nat) (b : List (List Int)) (hok : okM (t : Int) s a b) (w : World) (hP : w.heap[gp]? = some (.cells #[.int .i64 (t : Int), .int .i64 s, .slice A2 a.length c2, .slice A3 b.length c3] 29 (0, 0)))
  (h2 : Kd.C Kd.bool w A2 a.length a) (l2 : a.length ≤ c2) (h3 : Kd.C Row w A3 b.length b) (l3 : b.length ≤ c3) :
  Calls Tryd.prog 154 #[.pointer (some ⟨gp, 0, none⟩), .int .i64 (tp : Int)] w (Gives (someR t tp (tidM t s a b).1 (tidM t s a b).2) w) := by
 have hgood := tid_good (t := t) (s := s.toNat) (accs := a) (rows := b.map nats) ht (by have := (okM_ok hok).s1; simpa using this) (by have := (okM_ok hok).cl; simpa using this)
 have hbn : b.length ≤ 100000 := hok.2.2.2.1
 have htid : spec_l01Tidied.f (t : Int) s a b = some ((t : Int), 0, (tidM t s a b).1, (tidM t s a b).2.map ints) := by
  unfold spec_l01Tidied.f tidF
  rw [if_pos hok]
 obtain ⟨M, hM⟩ : ∃ M, tidM t s a b = M := ⟨_, rfl⟩
 have hM' : tidL (wdOf t) (b.map nats) a s.toNat (padT t) = M := by rw [← hM]; unfold tidM; rw [Int.toNat_natCast]
 rw [hM'] at hgood
 rw [hM] at htid ⊢
 obtain ⟨hcl, hr0, hr8⟩ := hgood
 rw [List.length_map] at hr8
 have hrn : M.2.length ≤ 1000000 := by omega
 have htidq := Aside0.mk htid
 have hclq := Aside0.mk hcl
 clear hM hM' htid hcl hok
 obtain ⟨u, hu⟩ : ∃ u, t - 1 = u := ⟨_, rfl⟩
 have hu4 : u < 4 := by omega
 have hu1 : 0 < u := by omega
 have wt : wrap64 ((t : Int) - 1) = (u : Int) := by unfold wrap64; omega
 have wt2 : (t : Int) - 1 = (u : Int) := by omega
 obtain ⟨wd, hwd⟩ : ∃ wd, wdOf u = wd := ⟨_, rfl⟩
 have hwdq := Aside0.mk hwd
 have huq := Aside0.mk hu
 have hwd26 : wd ≤ 26 := by rw [← hwd]; exact wd_le u hu4
 have hwide : Aside0 (∀ W, Calls Tryd.prog 60 #[.int .i64 (u : Int)] W fun e W' => e = .returned (.int .i64 (wd : Int)) ∧ Below W.heap.size W W') := ⟨fun W => by
  rw [← hwd]
  exact (spec_l01Wide.calls 10 _ _ W (fin_wide u hu4).2).mono (fun e W' hh => ⟨hh.1, hh.2.below⟩)⟩
 have hsomeR : Aside0 (someR t tp M.1 M.2 = match meet M.2 (colT t tp) wd 1000 (startS M.2.length) with
  | some (l, rws) => toldR (u : Int) (tidL wd rws (l.map (accS M.2 M.1 (colT t tp wd 0) (colT t tp wd 1))) 0 (padT u)).1 ((tidL wd rws (l.map (accS M.2 M.1 (colT t tp wd 0) (colT t tp wd 1))) 0 (padT u)).2.map ints)
  | none => bad 3) := ⟨by unfold someR; rw [hu, hwd]⟩
 obtain ⟨RR, hRR⟩ : ∃ RR, Aside0 (someR t tp M.1 M.2 = RR) := ⟨_, ⟨rfl⟩⟩
 rw [hRR.out]
 obtain ⟨R, hR⟩ : ∃ R, Aside0 (bfs id (nextS M.2 (colT t tp)) (List.range wd) 1000 1002 0 [startS M.2.length] [] = some R ∧ meet M.2 (colT t tp) wd 1000 (startS M.2.length) = R) := by
  rcases meet_some (rows := M.2) (col := colT t tp) (wd := wd) (limit := 1000) (start := startS M.2.length) (by decide) with ⟨x, h1, h2⟩ | ⟨h1, h2⟩
  ·exact ⟨some x, ⟨h1, h2⟩⟩
  ·exact ⟨none, ⟨h1, h2⟩⟩
 clear hwd hu
 have bz : (w.alloc (.cells #[.int .i64 0, .int .i64 0, .slice none 0 0, .slice none 0 0] 29)).heap[w.heap.size]? = some (.cells #[.int .i64 0, .int .i64 0, .slice none 0 0, .slice none 0 0] 29 (0, 0)) := blk_new _ _
 have hb0 : Below w.heap.size w (w.alloc (.cells #[.int .i64 0, .int .i64 0, .slice none 0 0, .slice none 0 0] 29)) := below_alloc (Below.refl _ _) _
 go_enter Tryd.func154, Tryd.ntmps154
 go_wp2_with (go_at_call 48; go_loud (
  with_reducible refine (spec_l01Tidied.calls gp (t : Int) s A2 c2 a A3 c3 b _ _ _ _ _ (blk_below hP hb0) (Kd.C_below h2 hb0) l2 (Kd.C_below h3 hb0) l3 htidq.out).mono ?_
  rintro e wa ⟨v2, v3, rfl, q2, q3, hba⟩
  obtain ⟨B2, d2, e2, hd2, hC2⟩ := Kd.R_reads q2
  subst e2
  obtain ⟨B3, d3, e3, hd3, hC3⟩ := Kd.S_reads q3
  rw [List.length_map] at e3 hd3 hC3
  subst e3
  have hal : M.1.length = M.2.length := hclq.out.len.symm
  rw [hal] at hC2 hd2
  have hbb : (wa.alloc (.cells #[.int .i64 (t : Int), .int .i64 0, .slice B2 M.1.length d2, .slice B3 M.2.length d3] 29)).heap[wa.heap.size]? = _ := blk_new _ _
  rw [hal] at hbb ⊢
  clear hal
  have m1 : (wa.alloc (.cells #[.int .i64 (t : Int), .int .i64 0, .slice B2 M.2.length d2, .slice B3 M.2.length d3] 29)).cell? ⟨wa.heap.size, 1, none⟩ = some (.int .i64 0) := (blk_cell hbb 1).trans rfl
  have m0 : (((wa.alloc (.cells #[.int .i64 (t : Int), .int .i64 0, .slice B2 M.2.length d2, .slice B3 M.2.length d3] 29)).alloc (.cells #[.int .i64 0] 2)).alloc (.cells #[.slice (some ⟨wa.heap.size + 1, 0, none⟩) 1 1] 86)).cell? ⟨wa.heap.size, 0, none⟩ = some (.int .i64 (t : Int)) := (blk_cell (blk_alloc (blk_alloc hbb _) _) 0).trans rfl))
 have hn0 := hr0
 have hSx : Sx wa w.heap.size t M.2.length wa.heap.size B2 d2 B3 d3 u (wa.heap.size + 3) (.slice (some ⟨wa.heap.size + 2, 0, none⟩) 1 1) [startS M.2.length] none (.slice none 0 0) [] (.slice none 0 0) [] ((((wa.alloc (.cells #[.int .i64 (t : Int), .int .i64 0, .slice B2 M.2.length d2, .slice B3 M.2.length d3] 29)).alloc (.cells #[.int .i64 0] 2)).alloc (.cells #[.slice (some ⟨wa.heap.size + 1, 0, none⟩) 1 1] 86)).alloc (.cells #[.int .i64 (u : Int), .int .i64 0, .slice none 0 0, .slice none 0 0] 29)) := by
  have hsz := Below.size hba
  have e1 : (w.alloc (.cells #[.int .i64 0, .int .i64 0, .slice none 0 0, .slice none 0 0] 29)).heap.size = w.heap.size + 1 := by simp
  have eL : lists [startS M.2.length] = [[0]] := by unfold lists; simp only [List.map_cons, List.map_nil]; rw [idx_start hn0]; rfl
  have hf := first_set (wa.alloc (.cells #[.int .i64 (t : Int), .int .i64 0, .slice B2 M.2.length d2, .slice B3 M.2.length d3] 29)) wa.heap.size (by simp) (fun k => (True ∧ some k ≠ (Value.slice none 0 0).ownBlock) ∧ some k ≠ none) (fun k => ⟨⟨trivial, by simp [Value.ownBlock]⟩, by simp⟩)
  have e2 : (wa.alloc (.cells #[.int .i64 (t : Int), .int .i64 0, .slice B2 M.2.length d2, .slice B3 M.2.length d3] 29)).heap.size = wa.heap.size + 1 := by simp
  rw [e2] at hf
  refine ⟨blk_alloc (blk_alloc (blk_alloc (blk_alloc (blk_below bz hba) _) _) _) _, blk_alloc (blk_alloc (blk_alloc (blk_new _ _) _) _) _, blk_at _ _ _ (by simp), Kd.R_nil _ _ _ _ _, Kd.R_nil _ _ _ _ _, ?_, below_alloc (below_alloc (below_alloc (below_alloc (Below.refl _ _) _) _) _) _, ⟨by omega, by omega, by omega⟩⟩
  rw [eL]
  exact Kd.R_below hf (below_alloc (Below.refl _ _) _)
 have hBwa := Aside0.mk (below_step hb0 hba)
 have hCA := Aside0.mk hC2
 have hCN := Aside0.mk hC3
 have hgW : w.heap.size < wa.heap.size := by have := Below.size hba; simp at this; omega
 obtain ⟨gX, hgX⟩ : ∃ gX, wa.heap.size + 3 = gX := ⟨_, rfl⟩
 obtain ⟨gS, hgS⟩ : ∃ gS, wa.heap.size + 2 = gS := ⟨_, rfl⟩
 rw [hgX, hgS] at hSx
 have hn3 : wa.heap.size + 1 + 1 + 1 = gX := by omega
 have hn2 : wa.heap.size + 1 + 1 = gS := by omega
 simp only [hn3]
 simp only [hn2]
 generalize ((((wa.alloc (.cells #[.int .i64 (t : Int), .int .i64 0, .slice B2 M.2.length d2, .slice B3 M.2.length d3] 29)).alloc (.cells #[.int .i64 0] 2)).alloc (.cells #[.slice (some ⟨wa.heap.size + 1, 0, none⟩) 1 1] 86)).alloc (.cells #[.int .i64 (u : Int), .int .i64 0, .slice none 0 0, .slice none 0 0] 29)) = ws at *
 clear bz hb0 hba hbb m0 m1 q2 q3 hgX hgS hn3 hn2 hn0 hC2 hC3 h2 h3 hP wt wt2
 go_loopg [7, 9] 1002 (fun kf v7 v9 wr => ∃ (i : Nat) (li : List (List Bool)) (rws : List (List Nat)) (AL : Option Addr) (cL : Nat) (vA vN : Value), v7 = .slice AL li.length cL ∧ v9 = .int .i64 (i : Int) ∧ Aside0 (bfs id (nextS M.2 (colT t tp)) (List.range wd) 1000 kf i li rws = some R) ∧ Aside0 (rws.length = i) ∧ i ≤ li.length ∧ li.length ≤ 1000 ∧ Aside0 (∀ S ∈ li, S.length = M.2.length) ∧ Aside0 (Sx wa w.heap.size t M.2.length wa.heap.size B2 d2 B3 d3 u gX (.slice AL li.length cL) li none vA ((li.take i).map (accS M.2 M.1 (colT t tp wd 0) (colT t tp wd 1))) vN rws wr))
 case atStart => exact ⟨0, [startS M.2.length], [], _, _, _, _, rfl, rfl, ⟨hR.out.1⟩, ⟨rfl⟩, Nat.zero_le _, by simp, ⟨fun S hS => by rw [List.mem_singleton.1 hS]; exact startS_length _⟩, ⟨hSx⟩⟩
 case round =>
  clear hSx
  obtain ⟨wo, rfl⟩ : ∃ wo : World, wo = wr := ⟨_, rfl⟩
  obtain ⟨i, li, rws, AL, cL, vA, vN, rfl, rfl, H, hrl, hil, hli, hQl, hg⟩ := hrel
  replace hg := hg.out
  by_cases hlt : i < li.length
  ·cases gk with
   | zero => exact absurd H.out (by simp [bfs])
   | succ kf =>
   have H1 := H.out
   unfold bfs at H1
   rw [dif_pos hlt] at H1
   have HH := Aside0.mk H1
   clear H1 H
   have hKl := hQl.out _ (List.getElem_mem hlt)
   have htr := Aside0.mk (take_set (nxt := nextS M.2 (colT t tp)) (cs := List.range wd) hlt)
   have hki := Aside0.mk (List.getElem?_eq_getElem hlt)
   obtain ⟨KS, hK⟩ : ∃ KS, li[i] = KS := ⟨_, rfl⟩
   rw [hK] at HH hKl htr hki
   have HK := Aside0.mk hK
   have hKlq := Aside0.mk hKl
   clear hK hKl
   have hlt1 : ((i : Int) < (li.length : Int)) = True := eq_true (by omega)
   have h0i : (0 ≤ (i : Int)) = True := eq_true (by omega)
   have h0 := hg.born
   go_wp2_with fail
   clear hg
   go_loopg [7, 10, 11] wd (fun kq v7 v10 v11 wq => ∃ (c : Nat) (lj : List (List Bool)) (r : List Nat) (A' : Option Addr) (c' : Nat) (Ar : Option Addr) (cr : Nat), v7 = .slice A' lj.length c' ∧ v10 = .slice Ar r.length cr ∧ v11 = .int .i64 (c : Int) ∧ c ≤ wd ∧ Aside0 (kq = wd - c) ∧ Aside0 (r.length = c) ∧ Aside0 ((row id (nextS M.2 (colT t tp)) KS ((List.range wd).drop c) lj).1 = (row id (nextS M.2 (colT t tp)) KS (List.range wd) li).1 ∧ r ++ (row id (nextS M.2 (colT t tp)) KS ((List.range wd).drop c) lj).2 = (row id (nextS M.2 (colT t tp)) KS (List.range wd) li).2) ∧ lj.length ≤ 1000 + c ∧ Aside0 (∀ S ∈ lj, S.length = M.2.length) ∧ Aside0 (lj[i]? = some KS) ∧
    Aside0 (Sy wa w.heap.size t M.2.length wa.heap.size B2 d2 B3 d3 u gX (.slice A' lj.length c') lj (.slice Ar r.length cr) r vA ((li.take i).map (accS M.2 M.1 (colT t tp wd 0) (colT t tp wd 1))) vN rws wq))
   case atStart => exact ⟨0, li, [], _, _, _, _, rfl, rfl, rfl, Nat.zero_le _, ⟨rfl⟩, ⟨rfl⟩, ⟨⟨by simp, by simp⟩⟩, hli, hQl, hki, ⟨h0⟩⟩
   case round =>
    clear h0
    obtain ⟨c, lj, r, A', c', Ar, cr, rfl, rfl, rfl, hcw, hkq, hrc, HR, hlj, hQj, hji, h⟩ := hrel
    replace h := h.out
    have oX : wr.cell? ⟨gX, 0, none⟩ = some (.int .i64 (u : Int)) := (blk_cell h.g.bX 0).trans rfl
    by_cases hc : c < wd
    ·have hd : (List.range wd).drop c = c :: (List.range wd).drop (c + 1) := by
      rw [List.drop_eq_getElem_cons (by simpa using hc)]; simp
     have HR1 := HR.out
     rw [hd] at HR1
     clear HR hd
     have hij : i < lj.length := (List.getElem?_eq_some_iff.1 hji.out).1
     have hjk : lj[i] = KS := (List.getElem?_eq_some_iff.1 hji.out).2
     have hSn : (nextS M.2 (colT t tp) KS c).length = M.2.length := by rw [nextS_length]; exact hKlq.out
     have hnx : Aside0 (mkL M.2 (colT t tp c) (idx KS) M.2.length 3 = nextS M.2 (colT t tp) KS c) := ⟨by have := mkL_next M.2 (colT t tp) KS c; rwa [hKlq.out] at this⟩
     obtain ⟨S, hS⟩ : ∃ S, nextS M.2 (colT t tp) KS c = S := ⟨_, rfl⟩
     have hSq := Aside0.mk hS
     rw [hS] at hSn hnx
     have hSnq := Aside0.mk hSn
     clear hS hSn
     have hcu : c < wdOf (t - 1) := by rw [huq.out, hwdq.out]; exact hc
     have hcuq := Aside0.mk hcu
     clear hcu
     obtain ⟨aJ, rfl, A9, c9, e9, hl9, hC9⟩ := at_row (Kd.R_reads' h.g.set).2.2 i (by rw [lists_length]; exact hij)
     have hlq : (lists lj)[i]'(by rw [lists_length]; exact hij) = ints (idx KS) := by unfold lists; rw [List.getElem_map, hjk]
     rw [hlq, ints_length] at e9 hl9 hC9
     have hil3 : (idx KS).length ≤ 1000000 := by have := idx_length KS; have := hKlq.out; omega
     have hxl : ∀ q ∈ idx KS, q < M.2.length := fun q hq => by have := idx_lt hq; rw [hKlq.out] at this; exact this
     have hij1 : ((i : Int) < (lj.length : Int)) = True := eq_true (by omega)
     have hcw1 : ((c : Int) < (wd : Int)) = True := eq_true (by omega)
     clear hjk hlq hl9
     go_wp2_with (first
      | (go_at_call 60; go_loud (
        with_reducible refine (hwide.out _).mono ?_
        rintro e wb ⟨rfl, hbb⟩
        have h4 := h.step hbb
        have e9b : wb.cell? (aJ.add i) = some (.slice A9 (idx KS).length c9) := (hbb.cell (World.block_lt_of_cell? wr _ e9)).trans e9))
      | (go_at_call 172; go_loud (
        have q := some_ wa.heap.size t tp c ht htp hcuq.out 0 B2 0 d2 B3 d3 M.2 hrn hr0 hclq.out.wide hclq.out.lt (idx KS) hxl hil3 wb h4.g.bT (Kd.C_below hCN.out h4.g.bel) A9 c9 (Kd.C_below hC9 hbb)
        rw [hnx.out] at q
        with_reducible refine q.mono ?_
        rintro e wc' ⟨v12, rfl, hT, hbc⟩
        obtain ⟨A12, c12, e12⟩ := Kd.R_slice hT
        rw [ints_length] at e12
        subst e12
        have h5' := h4.step hbc)))
     obtain ⟨wc, hwc⟩ : ∃ wc, wc = wb := ⟨_, rfl⟩
     have h5 : Sy wa w.heap.size t M.2.length wa.heap.size B2 d2 B3 d3 u gX (.slice (some aJ) lj.length c') lj (.slice Ar r.length cr) r vA ((li.take i).map (accS M.2 M.1 (colT t tp wd 0) (colT t tp wd 1))) vN rws wc := by rw [hwc]; exact h4
     rw [← hwc] at hT hbc
     clear e9 e9b h h4 hbb hxl hil3 hC9 hij1 hwc
     go_loopg [13, 14] (lj.length + 1) (fun kz v13 v14 W => Aside0 (Below wc.heap.size wc W) ∧ Aside0 (Kd.R (Kd.int .i64) 2 W wc.heap.size (fun _ => True) (.slice A12 (idx S).length c12) (ints (idx S))) ∧ ((∃ k : Nat, v13 = .int .i64 (-1) ∧ v14 = .int .i64 (k : Int) ∧ Aside0 (kz = lj.length - k + 1) ∧ k ≤ lj.length ∧ Aside0 (∀ j, j < k → ∀ h : j < lj.length, lj[j] ≠ S)) ∨
      (∃ j : Nat, v13 = .int .i64 (j : Int) ∧ v14 = .int .i64 ((j + 1 : Nat) : Int) ∧ Aside0 (kz = 0) ∧ j < lj.length ∧ Aside0 (find id S lj = some j))))
     case atStart => exact ⟨⟨hbc⟩, ⟨hT⟩, .inl ⟨0, rfl, rfl, ⟨by omega⟩, Nat.zero_le _, ⟨fun j hj => by omega⟩⟩⟩
     case round =>
      clear hT hbc h5'
      obtain ⟨hBc, hT2, hcase⟩ := hrel
      replace hT2 := hT2.out
      have h6 := h5.step hBc.out
      rcases hcase with ⟨k, rfl, rfl, hkz, hkl, hno⟩ | ⟨j, rfl, rfl, hkz, hjl, hfj⟩
      ·have hm0 : ((-1 : Int) < 0) = True := eq_true (by omega)
       by_cases hk : k < lj.length
       ·have hk1 : ((k : Int) < (lj.length : Int)) = True := eq_true (by omega)
        have h0k : (0 ≤ (k : Int)) = True := eq_true (by omega)
        obtain ⟨aJ', eJ, A10, c10, e10, hl10, hC10⟩ := at_row (Kd.R_reads' h6.g.set).2.2 k (by rw [lists_length]; exact hk)
        cases eJ
        have hlk : (lists lj)[k]'(by rw [lists_length]; exact hk) = ints (idx lj[k]) := by unfold lists; rw [List.getElem_map]
        rw [hlk, ints_length] at e10 hl10 hC10
        have hlen2 := hQj.out _ (List.getElem_mem hk)
        have hiffq : Aside0 (idx lj[k] = idx S ↔ lj[k] = S) := ⟨⟨fun e => idx_inj (by rw [hlen2, hSnq.out]) e, fun e => by rw [e]⟩⟩
        have hno2 := Aside0.mk (fun (hne : lj[k] ≠ S) j (hj : j < k + 1) (hjl : j < lj.length) => (show lj[j] ≠ S from by
         rcases Nat.lt_succ_iff_lt_or_eq.1 hj with h2 | rfl
         ·exact hno.out j h2 hjl
         ·exact hne))
        have hfst := Aside0.mk (fun (he : lj[k] = S) => (show find id S lj = some k from find_first hk he hno.out))
        have hb1 : (idx lj[k]).length ≤ 1000000 := by have := idx_length lj[k]; omega
        have hb2 : (idx S).length ≤ 1000000 := by have := idx_length S; have := hSnq.out; omega
        obtain ⟨Q, hQ⟩ : ∃ Q, lj[k] = Q := ⟨_, rfl⟩
        rw [hQ] at e10 hl10 hC10 hiffq hno2 hfst hb1
        clear hQ hlk hlen2 hl10
        have hC2 := (Kd.R_reads' hT2).2.2
        rw [ints_length] at hC2
        by_cases hQS : Q = S
        ·have hdt : decide (idx Q = idx S) = true := decide_eq_true (hiffq.out.2 hQS)
         have hf2 := Aside0.mk (hfst.out hQS)
         have hdq := Aside0.mk hdt
         clear hdt hQS
         go_wp2_with (go_at_call 173; go_loud (
          have q := same A10 c10 (idx Q) A12 c12 (idx S) _ hC10 hC2 hb1 hb2
          rw [hdq.out] at q
          with_reducible refine q.mono ?_
          rintro e wd2 ⟨rfl, hbd⟩
          have hBd := Aside0.mk (below_step hBc.out hbd)
          have hTd := Aside0.mk (Kd.R_below hT2 hbd)))
         go_roundg 0
         case measure => have := hkz.out; omega
         case rel => exact ⟨hBd, hTd, .inr ⟨k, rfl, (by first | rfl | go_num), ⟨rfl⟩, hk, hf2⟩⟩
        ·have hdt : decide (idx Q = idx S) = false := decide_eq_false (fun e => hQS (hiffq.out.1 e))
         have hn2 := Aside0.mk (hno2.out hQS)
         have hdq := Aside0.mk hdt
         clear hdt hQS
         go_wp2_with (go_at_call 173; go_loud (
          have q := same A10 c10 (idx Q) A12 c12 (idx S) _ hC10 hC2 hb1 hb2
          rw [hdq.out] at q
          with_reducible refine q.mono ?_
          rintro e wd2 ⟨rfl, hbd⟩
          have hBd := Aside0.mk (below_step hBc.out hbd)
          have hTd := Aside0.mk (Kd.R_below hT2 hbd)))
         go_roundg (lj.length - (k + 1) + 1)
         case measure => have := hkz.out; omega
         case rel => exact ⟨hBd, hTd, .inl ⟨k + 1, rfl, (by go_num), ⟨rfl⟩, by omega, hn2⟩⟩
       ·have hk1 : ((k : Int) < (lj.length : Int)) = False := eq_false (by omega)
        have hfn := find_none_step hno.out (by omega)
        rw [← hSq.out] at hfn
        rw [row_none hfn] at HR1
        have HR := Aside0.mk HR1
        have hSl2 := Aside0.mk (idx_length S)
        clear HR1 hfn
        rw [hSq.out] at HR
        go_wp2_with (first
         | ((with_reducible refine gate_builtin (b := .append) (xs := #[.tmp 67, .tmp 69]) rfl ?_); go_loud (at_builtin; refine R_append' Row (w0 := wa) wa.heap.size rfl (.tmp 67) (.tmp 69) 23 86 (.slice none 0 0) 24 rfl Tryd.underlying23 Ro.info_longs rfl (by decide) (by decide) (.slice (some aJ) lj.length c') (lists lj) (ints (idx S)) [.slice A12 (idx S).length c12] (fun k => (True ∧ some k ≠ vN.ownBlock) ∧ some k ≠ (Value.slice Ar r.length cr).ownBlock) (fun k => wc.heap.size ≤ k) _ (by simp) rfl rfl (Kd.M_row (Kd.R_mono (Kd.R_lower (Kd.R_bound hT2) (Below.size h5.g.bel)) (fun k hk => hk.2.1))) (fun k hk => ⟨⟨⟨trivial, fun e => by have := Kd.R_lt h5.g.nxt k e.symm; omega⟩, fun e => by have := Kd.R_lt h5.row k e.symm; omega⟩, fun e => by have := Kd.R_lt h5.g.set k e.symm; omega⟩) (fun k hk => ⟨⟨trivial, fun e => by have := Kd.R_lt h6.g.nxt k e.symm; omega⟩, fun e => by have := Kd.R_lt h6.row k e.symm; omega⟩) h6.g.set h6.g.bel (Below.size h6.g.bel) (by rw [lists_length]; omega) ?_; intro v7 w7 hR7 hb7 hg7 hat7; have es : lists lj ++ [ints (idx S)] = lists (lj ++ [S]) := (by simp [lists]); rw [es] at hR7; clear es; obtain ⟨A7, c7, hv7⟩ := Kd.R_slice hR7; rw [lists_length, List.length_append, List.length_singleton] at hv7; subst hv7; have h7 := h6.add hg7 hat7 hR7 hb7))
         | ((with_reducible refine gate_builtin (b := .append) (xs := #[.tmp 71, .tmp 73]) rfl ?_); go_loud (at_builtin; refine R_append' (Kd.int .i64) (w0 := wa) wa.heap.size rfl (.tmp 71) (.tmp 73) 86 2 (.int .i64 0) 8 rfl Tryd.underlying86 Ro.info_long1 rfl (by decide) (by decide) (.slice Ar r.length cr) (ints r) (lj.length : Int) [.int .i64 (lj.length : Int)] (fun k => (True ∧ some k ≠ (Value.slice A7 (lj.length + 1) c7).ownBlock) ∧ some k ≠ vN.ownBlock) (fun _ => False) _ (by simp) rfl rfl rfl (fun _ h => h.elim) (fun k hk => ⟨⟨trivial, fun e => by have := Kd.R_lt h7.g.set k e.symm; omega⟩, fun e => by have := Kd.R_lt h7.g.nxt k e.symm; omega⟩) h7.row h7.g.bel (Below.size h7.g.bel) (by have := hrc.out; rw [ints_length]; omega) ?_; intro v8 w8 hR8 hb8 hg8 hat8; have er : ints r ++ [(lj.length : Int)] = ints (r ++ [lj.length]) := (by rw [Wi.ints_app]; rfl); rw [er] at hR8; clear er; obtain ⟨A8, c8, hv8⟩ := Kd.R_slice hR8; rw [ints_length] at hv8; subst hv8; have h8 := h7.more hg8 hat8 hR8 hb8)))
        go_roundg (wd - (c + 1))
        case measure => have := hkq.out; omega
        case rel => exact ⟨c + 1, lj ++ [S], r ++ [lj.length], A7, c7, A8, c8, (by simp), (by simp), (by go_num), by omega, ⟨by simp⟩, ⟨by have := hrc.out; simp; omega⟩, ⟨⟨HR.out.1, by rw [List.append_assoc]; exact HR.out.2⟩⟩, by rw [List.length_append, List.length_singleton]; omega, ⟨fun x hx => (List.mem_append.1 hx).elim (hQj.out x) (fun h => by rw [List.mem_singleton.1 h]; exact hSnq.out)⟩, ⟨by rw [List.getElem?_append_left hij]; exact hji.out⟩, ⟨by have e : (lj ++ [S]).length = lj.length + 1 := (by simp); rw [e]; exact h8⟩⟩
      ·have hj0 : ((j : Int) < 0) = False := eq_false (by omega)
       have hfj2 := hfj.out
       rw [← hSq.out] at hfj2
       rw [row_some hfj2] at HR1
       have HR := Aside0.mk HR1
       clear HR1 hfj2
       have key : ((((j + 1 : Nat) : Int) < (lj.length : Int)) = True ∧ ((j : Int) + 1 < (lj.length : Int)) = True) ∨ ((((j + 1 : Nat) : Int) < (lj.length : Int)) = False ∧ ((j : Int) + 1 < (lj.length : Int)) = False) := by
        by_cases h : j + 1 < lj.length
        ·exact .inl ⟨eq_true (by omega), eq_true (by omega)⟩
        ·exact .inr ⟨eq_false (by omega), eq_false (by omega)⟩
       rcases key with ⟨hz1, hz2⟩ | ⟨hz1, hz2⟩ <;> (
        go_wp2_with ((with_reducible refine gate_builtin (b := .append) (xs := #[.tmp 71, .tmp 73]) rfl ?_); go_loud (at_builtin; refine R_append' (Kd.int .i64) (w0 := wa) wa.heap.size rfl (.tmp 71) (.tmp 73) 86 2 (.int .i64 0) 8 rfl Tryd.underlying86 Ro.info_long1 rfl (by decide) (by decide) (.slice Ar r.length cr) (ints r) (j : Int) [.int .i64 (j : Int)] (fun k => (True ∧ some k ≠ (Value.slice (some aJ) lj.length c').ownBlock) ∧ some k ≠ vN.ownBlock) (fun _ => False) _ (by simp) rfl rfl rfl (fun _ h => h.elim) (fun k hk => ⟨⟨trivial, fun e => by have := Kd.R_lt h6.g.set k e.symm; omega⟩, fun e => by have := Kd.R_lt h6.g.nxt k e.symm; omega⟩) h6.row h6.g.bel (Below.size h6.g.bel) (by have := hrc.out; rw [ints_length]; omega) ?_; intro v8 w8 hR8 hb8 hg8 hat8; have er : ints r ++ [(j : Int)] = ints (r ++ [j]) := (by rw [Wi.ints_app]; rfl); rw [er] at hR8; clear er; obtain ⟨A8, c8, hv8⟩ := Kd.R_slice hR8; rw [ints_length] at hv8; subst hv8; have h8 := h6.more hg8 hat8 hR8 hb8))
        go_roundg (wd - (c + 1))
        case measure => have := hkq.out; omega
        case rel => exact ⟨c + 1, lj, r ++ [j], _, c', A8, c8, rfl, (by simp), (by go_num), by omega, ⟨by simp⟩, ⟨by have := hrc.out; simp; omega⟩, ⟨⟨HR.out.1, by rw [List.append_assoc]; exact HR.out.2⟩⟩, by omega, hQj, hji, ⟨h8⟩⟩)
    ·have hcc : c = wd := by omega
     subst c
     have HR1 := HR.out
     simp only [List.drop_of_length_le (Nat.le_of_eq (List.length_range (n := wd))), row, List.append_nil] at HR1
     have HR2 := Aside0.mk HR1
     clear HR1 HR
     have hcw1 : ((wd : Int) < (wd : Int)) = False := eq_false (by omega)
     by_cases hbig : 1000 < lj.length
     ·have hRn : R = none := by
       have h1 := HH.out
       rw [if_pos ⟨by decide, by rw [← HR2.out.1]; exact hbig⟩] at h1
       exact (Option.some.inj h1).symm
      have hx1 : ((1000 : Int) < (lj.length : Int)) = True := eq_true (by omega)
      have hRRb : RR = bad 3 := by rw [← hRR.out, hsomeR.out, hR.out.2, hRn]
      subst hRRb
      clear hRn
      go_wp2_with (go_at_call 60; go_loud (
       with_reducible refine (hwide.out _).mono ?_
       rintro e wb ⟨rfl, hbb⟩
       have h4 := h.step hbb
       have e0 : wb.cell? ⟨w.heap.size, 0, none⟩ = some (.int .i64 0) := (blk_cell h4.g.b0 0).trans rfl
       have e1 : wb.cell? ⟨w.heap.size, 1, none⟩ = some (.int .i64 0) := (blk_cell h4.g.b0 1).trans rfl
       have e2 : wb.cell? ⟨w.heap.size, 2, none⟩ = some (.slice none 0 0) := (blk_cell h4.g.b0 2).trans rfl
       have e3 : wb.cell? ⟨w.heap.size, 3, none⟩ = some (.slice none 0 0) := (blk_cell h4.g.b0 3).trans rfl
       have f0 : wb.frozen? ⟨w.heap.size, 0, none⟩ = false := blk_frozen h4.g.b0 0
       have f1 : wb.frozen? ⟨w.heap.size, 1, none⟩ = false := blk_frozen h4.g.b0 1
       have f2 : wb.frozen? ⟨w.heap.size, 2, none⟩ = false := blk_frozen h4.g.b0 2
       have f3 : wb.frozen? ⟨w.heap.size, 3, none⟩ = false := blk_frozen h4.g.b0 3))
      have b0 := h4.g.b0
      have hBf := below_step hBwa.out h4.g.bel
      have b1 := blk_put b0 0 (.int .i64 0) rfl
      have b2 := blk_put b1 1 (.int .i64 0) rfl
      have b3 := blk_put b2 2 (.slice none 0 0) rfl
      have b4 := blk_put b3 3 (.slice none 0 0) rfl
      refine bodyPost_ret (results_ct rfl _ _ (w.heap.size) 29 #[.int .i64 0, .int .i64 0, .slice none 0 0, .slice none 0 0] (0, 0) _ rfl b4 Tryd.underlying29 rfl (by kernel_rfl)) rfl (gives_bad rfl ?_)
      exact (((hBf.setCell (by simp) _).setCell (by simp) _).setCell (by simp) _).setCell (by simp) _
     ·have hx1 : ((1000 : Int) < (lj.length : Int)) = False := eq_false (by omega)
      have hij : i < lj.length := (List.getElem?_eq_some_iff.1 hji.out).1
      have hjk : lj[i] = KS := (List.getElem?_eq_some_iff.1 hji.out).2
      obtain ⟨aJ, rfl, A9, c9, e9, hl9, hC9⟩ := at_row (Kd.R_reads' h.g.set).2.2 i (by rw [lists_length]; exact hij)
      have hlq : (lists lj)[i]'(by rw [lists_length]; exact hij) = ints (idx KS) := by unfold lists; rw [List.getElem_map, hjk]
      rw [hlq, ints_length] at e9 hl9 hC9
      have hij1 : ((i : Int) < (lj.length : Int)) = True := eq_true (by omega)
      clear hjk hlq hl9
      go_wp2_with (go_at_call 60; go_loud (
       with_reducible refine (hwide.out _).mono ?_
       rintro e wb ⟨rfl, hbb⟩
       have h4 := h.step hbb
       have e9b : wb.cell? (aJ.add i) = some (.slice A9 (idx KS).length c9) := (hbb.cell (World.block_lt_of_cell? wr _ e9)).trans e9
       have hC9b := Kd.C_below hC9 hbb))
      clear e9 hC9 h hbb
      have h5 := h4.step (below_drew1 (Below.refl _ _))
      refine start_ (n := 12) (S := fun w' => w'.cell? ⟨gX, 2, none⟩ = some vA ∧ w'.cell? (aJ.add i) = some (.slice A9 (idx KS).length c9)) (ds := [11]) (.replicate 12 false) (by kernel_rfl) rfl rfl (⟨(blk_cell h5.g.bX 2).trans rfl, e9b⟩) (fun hHeld => ?_)
      refine pure_ (i := 0) (N := some 79) (v := ?_) (a' := ?_) (zb 12 1) rfl rfl (by kernel_rfl) (fun _ _ _ h => h) (Or.inl ⟨by rfl, ?_⟩) ?_ ?_
      rotate_left
      ·intro w'
       go_simp
       with_reducible rfl
      rotate_left
      ·simp only [Act.put, Za, Zb, Zc, i64_w, i32_w]
       rfl
      refine pure_ (i := 2) (N := some 81) (v := ?_) (a' := ?_) (zb 12 5) rfl rfl (by kernel_rfl) (fun _ _ _ h => h) (Or.inl ⟨by rfl, ?_⟩) ?_ ?_
      rotate_left
      ·intro w'
       go_simp
       with_reducible rfl
      rotate_left
      ·simp only [Act.put, Za, Zb, Zc, i64_w, i32_w]
       rfl
      refine pure_ (i := 3) (N := some 82) (v := ?_) (a' := ?_) (zb 12 13) rfl rfl (by kernel_rfl) (fun _ _ _ h => h) (Or.inl ⟨by rfl, ?_⟩) ?_ ?_
      rotate_left
      ·intro w'
       go_simp
       with_reducible rfl
      rotate_left
      ·simp only [Act.put, Za, Zb, Zc, i64_w, i32_w]
       rfl
      refine pure_ (i := 4) (N := some 83) (v := ?_) (a' := ?_) (zb 12 29) rfl rfl (by kernel_rfl) (fun _ _ _ h => h) (Or.inl ⟨by rfl, ?_⟩) ?_ ?_
      rotate_left
      ·intro w'
       go_simp
       with_reducible rfl
      rotate_left
      ·simp only [Act.put, Za, Zb, Zc, i64_w, i32_w]
       rfl
      refine pure_ (i := 6) (N := some 85) (v := ?_) (a' := ?_) (zb 12 93) rfl rfl (by kernel_rfl) (fun _ _ _ h => h) (Or.inl ⟨by rfl, ?_⟩) ?_ ?_
      rotate_left
      ·intro w'
       go_simp
       with_reducible rfl
      rotate_left
      ·simp only [Act.put, Za, Zb, Zc, i64_w, i32_w]
       rfl
      refine take_ (i := 1) (N := some 80) (v := ?_) (a' := ?_) (zb 12 95) rfl rfl (by kernel_rfl) (fun _ _ _ h => h) (Or.inl ⟨by rfl, ?_⟩) hHeld ?_ ?_
      rotate_left
      ·rintro w' ⟨s1, s2⟩
       go_simp
       with_reducible rfl
      rotate_left
      ·simp only [Act.put, Za, Zb, Zc, i64_w, i32_w]
       rfl
      refine take_ (i := 5) (N := some 84) (v := ?_) (a' := ?_) (zb 12 127) rfl rfl (by kernel_rfl) (fun _ _ _ h => h) (Or.inl ⟨by rfl, ?_⟩) hHeld ?_ ?_
      rotate_left
      ·rintro w' ⟨s1, s2⟩
       go_simp
       with_reducible rfl
      rotate_left
      ·simp only [Act.put, Za, Zb, Zc, i64_w, i32_w]
       rfl
      refine one_ (i := 7) (N := some 86) (zb 12 255) rfl rfl (by kernel_rfl) (by decide) (fun K hK => ?_)
      refine goes_ Tryd.func174 (by kernel_rfl) rfl #[.pointer (some ⟨wa.heap.size, 0, none⟩), .slice A9 (idx KS).length c9, .int .i64 (tp : Int)] (by rfl) rfl rfl (by (try simp only [List.map_toArray, List.map_cons, List.map_nil]); first | done | rfl) ?_
      have q := ends wa.heap.size t tp ht (by omega) htp 0 B2 d2 B3 d3 M.1 M.2 hrn hr0 hclq.out KS hKlq.out (fun W => by rw [huq.out, hwdq.out]; exact hwide.out W) wb.drew h5.g.bT (Kd.C_below hCA.out h5.g.bel) (Kd.C_below hCN.out h5.g.bel) A9 c9 (Kd.C_below hC9b (below_drew1 (Below.refl _ _)))
      rw [huq.out, hwdq.out] at q
      with_reducible refine q.mono ?_
      clear q
      rintro e w4 ⟨rfl, hb4⟩
      refine ⟨_, rfl, ?_⟩
      have h6 := h5.step hb4
      have hs4 : ∀ W, Below w4.heap.size w4 W → W.cell? (aJ.add i) = some (.slice A9 (idx KS).length c9) := fun W hb => (hb.cell (World.block_lt_of_cell? w4 _ ((hb4.cell (World.block_lt_of_cell? wb.drew _ e9b)).trans e9b))).trans ((hb4.cell (World.block_lt_of_cell? wb.drew _ e9b)).trans e9b)
      refine hK.out _ _ ⟨(blk_cell h6.g.bX 2).trans rfl, hs4 _ (Below.refl _ _)⟩ (fun hHeld => ?_)
      clear hK K
      refine norm_ (a' := ?_) ?_ ?_
      rotate_left
      ·show Act.put _ (some 86) _ = _
       simp only [Act.put, Za, Zb, Zc, i64_w, i32_w]
       rfl
      refine one_ (i := 8) (N := some 87) (zb 12 511) rfl rfl (by kernel_rfl) (by decide) (fun K hK => ?_)
      refine value_ (w1 := w4.alloc (.cells #[.bool (accS M.2 M.1 (colT t tp wd 0) (colT t tp wd 1) KS)] 4)) (v := .slice (some ⟨w4.heap.size, 0, none⟩) 1 1) (by rfl) rfl (by first | (go_simp; done) | (go_simp; rfl)) ?_
      refine hK.out _ _ ⟨(blk_cell (h6.step (below_alloc (Below.refl _ _) (.cells #[.bool (accS M.2 M.1 (colT t tp wd 0) (colT t tp wd 1) KS)] 4))).g.bX 2).trans rfl, hs4 _ (below_alloc (Below.refl _ _) _)⟩ (fun hHeld => ?_)
      clear hK K
      refine norm_ (a' := ?_) ?_ ?_
      rotate_left
      ·show Act.put _ (some 87) _ = _
       simp only [Act.put, Za, Zb, Zc, i64_w, i32_w]
       rfl
      refine one_ (i := 9) (N := some 88) (zb 12 1023) rfl rfl (by kernel_rfl) (by decide) (fun K hK => ?_)
      refine Kd.R_append_step Kd.bool (w0 := wa) wa.heap.size (by rfl) (.tmp 80) (.tmp 87) 22 4 (.bool false) 1 rfl Tryd.underlying22 GwI.info_bool rfl (by decide) (by decide) vA ((li.take i).map (accS M.2 M.1 (colT t tp wd 0) (colT t tp wd 1))) (accS M.2 M.1 (colT t tp wd 0) (colT t tp wd 1) KS) [.bool (accS M.2 M.1 (colT t tp wd 0) (colT t tp wd 1) KS)] (fun _ => True) (fun _ => False) rfl rfl rfl (fun _ h => h.elim) (fun _ _ => trivial) h6.g.acc h6.g.bel (Below.size h6.g.bel) (by simp <;> omega) ?_
      intro v6 w6 hR6 hb6 hg6 hat6
      obtain ⟨A6, c6, hv6⟩ := Kd.R_slice hR6
      rw [List.length_append, List.length_singleton] at hv6
      subst hv6
      obtain ⟨b8, h7⟩ := h6.acc hg6 hR6 hb6
      have hs6 : w6.cell? (aJ.add i) = some (.slice A9 (idx KS).length c9) := by
       refine cell_grown hg6 (hs4 w4 (Below.refl _ _)) ?_
       obtain ⟨gs, cs, hvs, _, _, cells, hcs⟩ := Kd.R_form h6.g.set (by rw [lists_length]; omega)
       obtain ⟨rfl, _⟩ : aJ = ⟨gs, 0, none⟩ ∧ True := by
        simp only [Value.slice.injEq, Option.some.injEq] at hvs
        exact ⟨hvs.1, trivial⟩
       rw [Addr.add_mid]
       exact off_ne hcs (Off.row h6.g.acc (by decide))
      refine hK.out _ _ ⟨(blk_cell b8 2).trans rfl, hs6⟩ (fun hHeld => ?_)
      clear hK K
      refine norm_ (a' := ?_) ?_ ?_
      rotate_left
      ·show Act.put _ (some 88) _ = _
       simp only [Act.put, Za, Zb, Zc, i64_w, i32_w]
       rfl
      refine pure_ (i := 10) (N := some 89) (v := ?_) (a' := ?_) (zb 12 2047) rfl rfl (by kernel_rfl) (fun _ _ _ h => h) (Or.inl ⟨by rfl, ?_⟩) ?_ ?_
      rotate_left
      ·intro w'
       go_simp
       with_reducible rfl
      rotate_left
      ·simp only [Act.put, Za, Zb, Zc, i64_w, i32_w]
       rfl
      have c83 : w6.cell? ⟨gX, 2, none⟩ = some vA := (blk_cell b8 2).trans rfl
      have f83 : w6.frozen? ⟨gX, 2, none⟩ = false := blk_frozen b8 2
      refine last_ (i := 11) (N := none) (zb 12 4095) rfl rfl (by kernel_rfl) (by decide) (fun K hK => ?_)
      refine skip_ (w1 := w6.setCell ⟨gX, 2, none⟩ (.slice A6 (((li.take i).map (accS M.2 M.1 (colT t tp wd 0) (colT t tp wd 1))).length + 1) c6)) (by rfl) rfl (by first | (go_simp; done) | (go_simp; rfl)) ?_
      refine hK.out _ _ ?_
      clear hK
      refine done_ (by kernel_rfl) ?_
      clear h5 h6 hHeld c83 f83 b8 hR6 hg6 hb6 e9b hC9b h4
      generalize w6.setCell ⟨gX, 2, none⟩ (.slice A6 (((li.take i).map (accS M.2 M.1 (colT t tp wd 0) (colT t tp wd 1))).length + 1) c6) = w7 at h7 ⊢
      have k3 : w7.cell? ⟨gX, 3, none⟩ = some vN := (blk_cell h7.g.bX 3).trans rfl
      go_wp2_with ((with_reducible refine gate_builtin (b := .append) (xs := #[.tmp 91, .tmp 93]) rfl ?_); go_loud (at_builtin; refine R_append' Row (w0 := wa) wa.heap.size rfl (.tmp 91) (.tmp 93) 23 86 (.slice none 0 0) 24 rfl Tryd.underlying23 Ro.info_longs rfl (by decide) (by decide) vN (rws.map ints) (ints r) [.slice Ar r.length cr] (fun k => True ∧ some k ≠ (Value.slice (some aJ) lj.length c').ownBlock) (fun k => (True ∧ some k ≠ (Value.slice (some aJ) lj.length c').ownBlock) ∧ some k ≠ vN.ownBlock) _ (by simp) rfl rfl (Kd.M_row h7.row) (fun k hk => hk) (fun k hk => ⟨trivial, fun e => by have := Kd.R_lt h7.g.set k e.symm; omega⟩) (Kd.R_mono h7.g.nxt (fun k hk => hk.1)) h7.g.bel (Below.size h7.g.bel) (by have := hrl.out; rw [List.length_map]; omega) ?_; intro v8 w8 hR8 hb8 hg8 hat8; have er : rws.map ints ++ [ints r] = (rws ++ [r]).map ints := (by rw [List.map_append]; rfl); rw [er] at hR8; clear er; obtain ⟨A8, c8, hv8⟩ := Kd.R_slice hR8; rw [List.length_map, List.length_append, List.length_singleton] at hv8; subst hv8; obtain ⟨b8, h9⟩ := h7.nxt hg8 hat8 hR8 hb8; have c83 : w8.cell? ⟨gX, 3, none⟩ = some vN := (blk_cell b8 3).trans rfl; have f83 : w8.frozen? ⟨gX, 3, none⟩ = false := blk_frozen b8 3))
      go_roundg kf
      case measure => omega
      case rel =>
       have e1 : (lj.take (i + 1)).map (accS M.2 M.1 (colT t tp wd 0) (colT t tp wd 1)) = (li.take i).map (accS M.2 M.1 (colT t tp wd 0) (colT t tp wd 1)) ++ [accS M.2 M.1 (colT t tp wd 0) (colT t tp wd 1) KS] := by rw [HR2.out.1, htr.out.1, List.map_append]; rfl
       exact ⟨i + 1, lj, rws ++ [r], _, c', _, _, rfl, (by go_num), ⟨by have h1 := HH.out; rw [if_neg (by rw [← HR2.out.1]; omega)] at h1; rw [HR2.out.1, HR2.out.2]; exact h1⟩, ⟨by have := hrl.out; simp; omega⟩, (by rw [HR2.out.1]; exact htr.out.2), (by omega), hQj, ⟨by rw [e1]; exact h9⟩⟩
  ·have hii : i = li.length := by omega
   subst hii
   cases gk with
   | zero => exact absurd H.out (by simp [bfs])
   | succ kf =>
   have H1 := H.out
   unfold bfs at H1
   rw [dif_neg (by omega)] at H1
   have hRe : R = some (li, rws) := (Option.some.inj H1).symm
   have hbf := hR.out.1
   rw [hRe] at hbf
   obtain ⟨hc1, hc2, hc3⟩ := meet_closed hbf (accS M.2 M.1 (colT t tp wd 0) (colT t tp wd 1))
   rw [List.take_of_length_le (Nat.le_refl _)] at hg
   have hRRe : RR = toldR (u : Int) (tidL wd rws (li.map (accS M.2 M.1 (colT t tp wd 0) (colT t tp wd 1))) 0 (padT u)).1 ((tidL wd rws (li.map (accS M.2 M.1 (colT t tp wd 0) (colT t tp wd 1))) 0 (padT u)).2.map ints) := by rw [← hRR.out, hsomeR.out, hR.out.2, hRe]
   obtain ⟨ac, hac⟩ : ∃ ac, li.map (accS M.2 M.1 (colT t tp wd 0) (colT t tp wd 1)) = ac := ⟨_, rfl⟩
   rw [hac] at hRRe hg hc1
   have hal : ac.length = rws.length := hc1.len.symm
   have hokX : okM (u : Int) 0 ac (rws.map ints) := by
    refine ⟨⟨by omega, by omega⟩, ⟨Int.le_refl _, by rw [List.length_map]; omega⟩, by rw [List.length_map]; exact hal, by rw [List.length_map]; omega, fun r hr => ?_⟩
    obtain ⟨r', h1, rfl⟩ := List.mem_map.1 hr
    refine ⟨by rw [ints_length, hc1.wide r' h1, Int.toNat_natCast, hwdq.out], fun y hy => ?_⟩
    have hy' : y ∈ r'.map Int.ofNat := hy
    obtain ⟨z, hz, rfl⟩ := List.mem_map.1 hy'
    have := hc1.lt r' h1 z hz
    rw [List.length_map]
    exact ⟨by simp, Int.ofNat_lt.2 this⟩
   have hfX : spec_l01Tidied.f (u : Int) 0 ac (rws.map ints) = some ((u : Int), 0, (tidL wd rws ac 0 (padT u)).1, (tidL wd rws ac 0 (padT u)).2.map ints) := by
    unfold spec_l01Tidied.f tidF
    rw [if_pos hokX]
    unfold tidM
    rw [Int.toNat_natCast, hwdq.out, nats_rows]
    rfl
   obtain ⟨TT, hTT⟩ : ∃ TT, tidL wd rws ac 0 (padT u) = TT := ⟨_, rfl⟩
   rw [hTT] at hfX hRRe
   have hfXq := Aside0.mk hfX
   have hRRq := Aside0.mk hRRe
   obtain ⟨A5, c5, hvA, hc5, hCA5⟩ := Kd.R_reads hg.acc
   obtain ⟨A6, c6, hvN, hc6, hCN6⟩ := Kd.R_reads hg.nxt
   subst hvA hvN
   have bX := hg.bX
   have hBw := below_step hBwa.out hg.bel
   have b00 := hg.b0
   have hltF : ((li.length : Int) < (li.length : Int)) = False := eq_false (by omega)
   clear hfX hRRe hTT hokX hc1 hbf hRe H1 H hac hal hg
   go_wp2_with (first
    | (go_at_call 48; go_loud (
      with_reducible refine (spec_l01Tidied.calls gX (u : Int) 0 A5 c5 ac A6 c6 (rws.map ints) _ _ _ _ wo bX hCA5 hc5 hCN6 hc6 hfXq.out).mono ?_
      rintro e wx ⟨v2, v3, rfl, p2, p3, hbx⟩
      obtain ⟨D2, x2, e2⟩ := Kd.R_slice p2
      subst e2
      obtain ⟨D3, x3, e3⟩ := Kd.S_slice p3
      subst e3
      have hBx := below_step hBw hbx
      have hRel : Rel wx w.heap.size (fun _ => True) D2 x2 TT.1 D3 x3 (TT.2.map ints) := ⟨Kd.R_lower p2 (Below.size hBw), Kd.S_lower p3 (Below.size hBw)⟩))
    | (go_at_call 62; go_loud (
      have q := told (u : Int) TT.1 (TT.2.map ints) wx D2 x2 D3 x3 w.heap.size (Below.size hBx) w rfl hBx hRel
      have q2 := q
      rw [← hRRq.out] at q2
      simp only [List.length_map] at q2
      with_reducible refine q2.mono ?_
      rintro e wy ⟨⟨F2, y2, F3, y3, rfl, hRy, hBy⟩, hby⟩
      have b0 : wy.heap[w.heap.size]? = some (.cells #[.int .i64 0, .int .i64 0, .slice none 0 0, .slice none 0 0] 29 (0, 0)) := blk_below (blk_below b00 hbx) hby
      have e0 : wy.cell? ⟨w.heap.size, 0, none⟩ = some (.int .i64 0) := (blk_cell b0 0).trans rfl
      have e1 : wy.cell? ⟨w.heap.size, 1, none⟩ = some (.int .i64 0) := (blk_cell b0 1).trans rfl
      have e2 : wy.cell? ⟨w.heap.size, 2, none⟩ = some (.slice none 0 0) := (blk_cell b0 2).trans rfl
      have e3 : wy.cell? ⟨w.heap.size, 3, none⟩ = some (.slice none 0 0) := (blk_cell b0 3).trans rfl
      have f0 : wy.frozen? ⟨w.heap.size, 0, none⟩ = false := blk_frozen b0 0
      have f1 : wy.frozen? ⟨w.heap.size, 1, none⟩ = false := blk_frozen b0 1
      have f2 : wy.frozen? ⟨w.heap.size, 2, none⟩ = false := blk_frozen b0 2
      have f3 : wy.frozen? ⟨w.heap.size, 3, none⟩ = false := blk_frozen b0 3)))
   have b1 := blk_put b0 0 (.int .i64 RR.t) rfl
   have b2 := blk_put b1 1 (.int .i64 RR.s) rfl
   have b3 := blk_put b2 2 (.slice F2 RR.a.length y2) rfl
   have b4 := blk_put b3 3 (.slice F3 RR.b.length y3) rfl
   refine bodyPost_ret (results_ct rfl _ _ (w.heap.size) 29 #[.int .i64 RR.t, .int .i64 RR.s, .slice F2 RR.a.length y2, .slice F3 RR.b.length y3] (0, 0) _ rfl b4 Tryd.underlying29 rfl (by kernel_rfl)) rfl ⟨F2, y2, F3, y3, rfl, ⟨?_, ?_⟩, ?_⟩
   ·have hR2 := hRy.r2
    exact Kd.R_set (Kd.R_set (Kd.R_set (Kd.R_set hR2 b0 (by decide) 0 _) b1 (by decide) 1 _) b2 (by decide) 2 _) b3 (by decide) 3 _
   ·have hR3 := hRy.r3
    exact Kd.S_set (Kd.S_set (Kd.S_set (Kd.S_set hR3 b0 (by decide) 0 _) b1 (by decide) 1 _) b2 (by decide) 2 _) b3 (by decide) 3 _
   ·exact (((hBy.setCell (by simp) _).setCell (by simp) _).setCell (by simp) _).setCell (by simp) _
end Go.Proofs.YtbamnonamdpooaaDoor.Sq
namespace Go.Proofs.YtbamnonamdpooaaDoor.GwS
set_option linter.unusedVariables false
set_option linter.unusedSimpArgs false
open Go.RowKit Go.Proofs.YtbamnonamdpooaaDoorW.PrintWords Go.Proofs.YtbamnonamdpooaaDoorW.PrintLast Go.Proofs.YtbamnonamdpooaaDoorW.PrintMore Mp Kp Ky Fv Tdy
abbrev Pl := List Bool
def encP (k : Pl) : Value := .string (Sm.keyS k)
def Fit (k : Pl) : Prop := k.length ≤ 1000000
theorem keyS_size (k : Pl) : (Sm.keyS k).size = k.length := by simp [Sm.keyS, ByteArray.size]
theorem fit_key {k : Pl} (h : Fit k) : Go.keyOf Tryd.prog 9 (.string (Sm.keyS k)) = some (.string (Sm.keyS k).data.toList) := string_key (by rw [keyS_size]; unfold Fit at h; unfold maxLen; omega)
abbrev ints := GwI.ints
abbrev texts (l : List Pl) : List ByteArray := l.map Sm.keyS
/-- The map's entries: what has been met, with its number. -/
def ents (l : List Pl) : List (Value × Value) := l.zipIdx.map fun p => (encP p.1, .int .i64 (p.2 : Int))
theorem info_string : (Tryd.prog.info? 9).map (fun i => (i.zero, i.size, i.bytes)) = some (some (.string ⟨#[]⟩), 1, 16) := by kernel_rfl
theorem ents_snoc (l : List Pl) (k : Pl) : ents (l ++ [k]) = ents l ++ [(encP k, .int .i64 (l.length : Int))] := by simp [ents, List.zipIdx_append]
theorem ents_length (l : List Pl) : (ents l).length = l.length := by simp [ents]
theorem encP_inj {a b : Pl} (h : encP a = encP b) : a = b := Sm.keyS_inj (by unfold encP at h; injection h)
theorem at_text {w : World} {A : Option Addr} {n : Nat} {xs : List ByteArray} (h : Kd.string.C w A n xs) (i : Nat) (h1 : i < xs.length) : ∃ ad, A = some ad ∧ w.cell? (ad.add i) = some (.string xs[i]) := by
 obtain ⟨ad, e, hc⟩ := h.2.2 (by have := h.1; omega)
 obtain ⟨c, hs, hr, hcell⟩ := hc i _ (List.getElem?_eq_getElem h1)
 refine ⟨ad, e, ?_⟩
 have hr' : c = [Value.string xs[i]] := hr
 have := hcell 0 (.string xs[i]) (by rw [hr']; rfl)
 have es : Kd.string.sz = 1 := rfl
 rwa [es, Nat.mul_one, Nat.add_zero] at this
theorem ents_hit {l : List Pl} {k : Pl} {j : Nat} (h : find id k l = some j) : (encP k, Value.int .i64 (j : Int)) ∈ ents l := by
 obtain ⟨hj, e⟩ := find_some h
 refine List.mem_map.2 ⟨(k, j), ?_, rfl⟩
 rw [List.mem_zipIdx_iff_getElem?, List.getElem?_eq_getElem hj]
 exact congrArg some e
theorem ents_miss {l : List Pl} {k : Pl} (h : find id k l = none) : ∀ p ∈ ents l, p.1 ≠ encP k := by
 intro p hp he
 obtain ⟨⟨a, i⟩, ha, rfl⟩ := List.mem_map.1 hp
 have hm : a ∈ l := by
  rw [List.mem_zipIdx_iff_getElem?] at ha
  exact List.mem_of_getElem? ha
 exact find_none h a hm (encP_inj he)
/-- What stands in memory between two rounds; x: the block of the row that is being made. -/
structure G (w0 : World) (tapes : Nat) (bs : List Bool) (em : List (Value × Value)) (li : List Pl) (rws : List (List Nat)) (x : Option Nat) (vL vA vN : Value) (W : World) : Prop where
 b1 : W.heap[w0.heap.size]? = some (.cells #[.int .i64 0, .int .i64 0, .slice none 0 0, .slice none 0 0] 77 (0, 0))
 b2 : W.heap[w0.heap.size + 1]? = some (.cells #[.int .i64 tapes, .int .i64 0, vA, vN] 77 (0, 0))
 acc : Kd.R Kd.bool 4 W w0.heap.size (fun _ => True) vA bs
 nxt : Kd.R (Kd.slice 3 (Kd.int .i64)) 97 W w0.heap.size (fun k => (True ∧ some k ≠ vL.ownBlock) ∧ some k ≠ x) vN (rws.map ints)
 map : FMap Tryd.prog 9 W (w0.heap.size + 2) em
 lst : Kd.R Kd.string 9 W w0.heap.size (fun k => True ∧ some k ≠ x) vL (texts li)
 bel : Below w0.heap.size w0 W
section
variable {w0 : World} {tapes : Nat} {bs : List Bool} {em : List (Value × Value)} {li : List Pl} {rws : List (List Nat)} {x : Option Nat} {vL vA vN : Value} {W W' : World}
theorem G.lt (h : G w0 tapes bs em li rws x vL vA vN W) : w0.heap.size + 2 < W.heap.size := h.map.lt
/-- A call, a new block, a draw. -/
theorem G.step (h : G w0 tapes bs em li rws x vL vA vN W) (hb : Below W.heap.size W W') : G w0 tapes bs em li rws x vL vA vN W' :=
 ⟨blk_below h.b1 hb, blk_below h.b2 hb, Kd.R_below h.acc hb, Kd.R_below h.nxt hb, map_keep h.map (Keep.below hb) (by simp), Kd.R_below h.lst hb, below_step h.bel hb⟩
/-- An entry is put into the map. -/
theorem G.put (h : G w0 tapes bs em li rws x vL vA vN W) {em' : List (Value × Value)} (hg : W.grownBy W' (some (w0.heap.size + 2))) (hF : FMap Tryd.prog 9 W' (w0.heap.size + 2) em') : G w0 tapes bs em' li rws x vL vA vN W' := by
 have hk := Keep.grown hg
 have hlt := h.lt
 exact ⟨hk.obj h.b1 (by simp), hk.obj h.b2 (by simp), R_off h.acc hk (Off.map h.map _), R_off h.nxt hk (Off.map h.map _), hF, R_off h.lst hk (Off.map h.map _), h.bel.grown hg (by omega) (fun k hk => by cases hk; omega)⟩
end
/-- .. and while a row is made. -/
structure H (w0 : World) (tapes : Nat) (bs : List Bool) (em : List (Value × Value)) (li : List Pl) (rws : List (List Nat)) (r : List Nat) (vr vL vA vN : Value) (W : World) : Prop where
 g : G w0 tapes bs em li rws vr.ownBlock vL vA vN W
 row : Kd.R (Kd.int .i64) 3 W w0.heap.size (fun k => True ∧ some k ≠ vL.ownBlock) vr (ints r)
section
variable {w0 : World} {tapes : Nat} {bs : List Bool} {em : List (Value × Value)} {li : List Pl} {rws : List (List Nat)} {r : List Nat} {vr vL vA vN : Value} {W W' : World}
theorem H.step (h : H w0 tapes bs em li rws r vr vL vA vN W) (hb : Below W.heap.size W W') : H w0 tapes bs em li rws r vr vL vA vN W' := ⟨h.g.step hb, Kd.R_below h.row hb⟩
theorem H.put (h : H w0 tapes bs em li rws r vr vL vA vN W) {em' : List (Value × Value)} (hg : W.grownBy W' (some (w0.heap.size + 2))) (hF : FMap Tryd.prog 9 W' (w0.heap.size + 2) em') : H w0 tapes bs em' li rws r vr vL vA vN W' :=
 ⟨h.g.put hg hF, R_off h.row (Keep.grown hg) (Off.map h.g.map _)⟩
theorem H.push (h : H w0 tapes bs em li rws r vr vL vA vN W) {v1 : Value} {p : Pl} (hg : W.grownBy W' vL.ownBlock) (hat : v1.ownBlock = vL.ownBlock ∨ ∃ b, v1.ownBlock = some b ∧ W.heap.size ≤ b) (hR : Kd.R Kd.string 9 W' w0.heap.size (fun k => True ∧ some k ≠ vr.ownBlock) v1 (texts (li ++ [p]))) (hb : Below w0.heap.size w0 W') : H w0 tapes bs em (li ++ [p]) rws r vr v1 vA vN W' := by
 have hk := Keep.grown hg
 have o : ∀ E : List Nat, (∀ q ∈ E, q ≠ 9) → Off W vL.ownBlock E := fun E hE => Off.row h.g.lst hE
 exact ⟨⟨hk.obj h.g.b1 (off_ne h.g.b1 (o _ (by decide))), hk.obj h.g.b2 (off_ne h.g.b2 (o _ (by decide))), R_off h.g.acc hk (o _ (by decide)),
  Kd.R_mono (Kd.R_after (Kd.R_mono h.g.nxt (ok' := fun k => (True ∧ some k ≠ vr.ownBlock) ∧ some k ≠ vL.ownBlock) (fun k hk => ⟨⟨trivial, hk.2⟩, hk.1.2⟩)) hg hat) (fun k hk => ⟨⟨trivial, hk.2⟩, hk.1.2⟩),
  map_keep h.g.map hk (map_row_ne h.g.map h.g.lst), hR, hb⟩, Kd.R_after h.row hg hat⟩
theorem H.more (h : H w0 tapes bs em li rws r vr vL vA vN W) {v1 : Value} {j : Nat} (hg : W.grownBy W' vr.ownBlock) (hat : v1.ownBlock = vr.ownBlock ∨ ∃ b, v1.ownBlock = some b ∧ W.heap.size ≤ b) (hR : Kd.R (Kd.int .i64) 3 W' w0.heap.size (fun k => True ∧ some k ≠ vL.ownBlock) v1 (ints r ++ [(j : Int)])) (hb : Below w0.heap.size w0 W') : H w0 tapes bs em li rws (r ++ [j]) v1 vL vA vN W' := by
 have hk := Keep.grown hg
 have o : ∀ E : List Nat, (∀ q ∈ E, q ≠ 3) → Off W vr.ownBlock E := fun E hE => Off.row h.row hE
 exact ⟨⟨hk.obj h.g.b1 (off_ne h.g.b1 (o _ (by decide))), hk.obj h.g.b2 (off_ne h.g.b2 (o _ (by decide))), R_off h.g.acc hk (o _ (by decide)), Kd.R_after h.g.nxt hg hat, map_keep h.g.map hk (map_row_ne h.g.map h.row), Kd.R_after h.g.lst hg hat, hb⟩, by simpa [ints, GwI.ints] using hR⟩
/-- The state's mark is put behind the others. -/
theorem H.acc (h : H w0 tapes bs em li rws r vr vL vA vN W) {v1 : Value} {bs' : List Bool} (hg : W.grownBy W' vA.ownBlock) (hR : Kd.R Kd.bool 4 W' w0.heap.size (fun _ => True) v1 bs') (hb : Below w0.heap.size w0 W') :
  W'.heap[w0.heap.size + 1]? = some (.cells #[.int .i64 tapes, .int .i64 0, vA, vN] 77 (0, 0)) ∧ H w0 tapes bs' em li rws r vr vL v1 vN (W'.setCell ⟨w0.heap.size + 1, 2, none⟩ v1) := by
 have hk := Keep.grown hg
 have o : ∀ E : List Nat, (∀ q ∈ E, q ≠ 4) → Off W vA.ownBlock E := fun E hE => Off.row h.g.acc hE
 have b2 := hk.obj h.g.b2 (off_ne h.g.b2 (o _ (by decide)))
 refine ⟨b2, ?_⟩
 have hs := Keep.set W' ⟨w0.heap.size + 1, 2, none⟩ v1
 have p : ∀ E : List Nat, (∀ q ∈ E, q ≠ 77) → Off W' (some (w0.heap.size + 1)) E := fun E hE => Off.cells b2 hE
 have m := map_keep h.g.map hk (map_row_ne h.g.map h.g.acc)
 exact ⟨⟨hs.obj (hk.obj h.g.b1 (off_ne h.g.b1 (o _ (by decide)))) (by simp), blk_put b2 2 v1 rfl, R_off hR hs (p _ (by decide)), R_off (R_off h.g.nxt hk (o _ (by decide))) hs (p _ (by decide)), map_keep m hs (by simp), R_off (R_off h.g.lst hk (o _ (by decide))) hs (p _ (by decide)), hb.setCell (by simp) _⟩,
  R_off (R_off h.row hk (o _ (by decide))) hs (p _ (by decide))⟩
/-- The row is put behind the others. -/
theorem H.nxt (h : H w0 tapes bs em li rws r vr vL vA vN W) {v1 : Value} (hg : W.grownBy W' vN.ownBlock) (hR : Kd.R (Kd.slice 3 (Kd.int .i64)) 97 W' w0.heap.size (fun k => True ∧ some k ≠ vL.ownBlock) v1 (rws.map ints ++ [ints r])) (hb : Below w0.heap.size w0 W') :
  W'.heap[w0.heap.size + 1]? = some (.cells #[.int .i64 tapes, .int .i64 0, vA, vN] 77 (0, 0)) ∧ G w0 tapes bs em li (rws ++ [r]) none vL vA v1 (W'.setCell ⟨w0.heap.size + 1, 3, none⟩ v1) := by
 have hk := Keep.grown hg
 have o : ∀ E : List Nat, (∀ q ∈ E, q ≠ 97) → Off W vN.ownBlock E := fun E hE => Off.row h.g.nxt hE
 have b2 := hk.obj h.g.b2 (off_ne h.g.b2 (o _ (by decide)))
 refine ⟨b2, ?_⟩
 have hs := Keep.set W' ⟨w0.heap.size + 1, 3, none⟩ v1
 have p : ∀ E : List Nat, (∀ q ∈ E, q ≠ 77) → Off W' (some (w0.heap.size + 1)) E := fun E hE => Off.cells b2 hE
 have m := map_keep h.g.map hk (map_row_ne h.g.map h.g.nxt)
 exact ⟨hs.obj (hk.obj h.g.b1 (off_ne h.g.b1 (o _ (by decide)))) (by simp), blk_put b2 3 v1 rfl, R_off (R_off h.g.acc hk (o _ (by decide))) hs (p _ (by decide)), Kd.R_mono (R_off (by simpa using hR) hs (p _ (by decide))) (fun _ hk => ⟨hk, by simp⟩), map_keep m hs (by simp), Kd.R_mono (R_off (R_off h.g.lst hk (o _ (by decide))) hs (p _ (by decide))) (fun _ hk => ⟨trivial, by simp⟩), hb.setCell (by simp) _⟩
end
theorem take_row {nxt : Pl → Nat → Pl} {cs : List Nat} {li : List Pl} {i : Nat} (h : i < li.length) : (row id nxt li[i] cs li).1.take (i + 1) = li.take i ++ [li[i]] ∧ i + 1 ≤ (row id nxt li[i] cs li).1.length := by
 obtain ⟨m, hm⟩ := row_prefix (key := id) (nxt := nxt) (s := li[i]) cs li
 rw [hm]
 refine ⟨?_, by rw [List.length_append]; omega⟩
 rw [List.take_append_of_le_length (by omega), List.take_succ_eq_append_getElem h]
/-- What comes of it. -/
def Grown (tapes : Nat) (acc : Pl → Bool) (w : World) (R : Option (List Pl × List (List Nat))) (e : Ending) (w' : World) : Prop := Below w.heap.size w w' ∧ match R with
 | some (l, rows) => ∃ vA vN, e = .returned (.tuple #[.agg #[.int .i64 tapes, .int .i64 0, vA, vN], .bool true]) ∧ Kd.R Kd.bool 4 w' w.heap.size (fun _ => True) vA (l.map acc) ∧ Kd.R (Kd.slice 3 (Kd.int .i64)) 97 w' w.heap.size (fun _ => True) vN (rows.map ints)
 | none => e = .returned (.tuple #[.agg #[.int .i64 0, .int .i64 0, .slice none 0 0, .slice none 0 0], .bool false])
set_option maxHeartbeats 8000000 in
set_option maxRecDepth 100000 in
theorem grow (tapes : Nat) (start : Pl) (fa fx : Value) (acc : Pl → Bool) (nxt : Pl → Nat → Pl) (w : World) (wd : Nat) (hwd2 : wd ≤ 30)
  (hwd : ∀ W, Calls Tryd.prog 124 #[.int .i64 tapes] W fun e W' => e = .returned (.int .i64 wd) ∧ Below W.heap.size W W')
  (Q : Pl → Prop) (hQ0 : Q start) (hQf : ∀ k, Q k → Fit k) (hQn : ∀ k c, Q k → c < wd → Q (nxt k c))
  (hacc : ∀ k, Q k → Answers Tryd.prog w fa #[encP k] (.bool (acc k))) (hnxt : ∀ k c, Q k → c < wd → Answers Tryd.prog w fx #[encP k, .int .i64 (c : Int)] (encP (nxt k c)))
  (f : Nat) (R : Option (List Pl × List (List Nat))) (hr : bfs id nxt (List.range wd) 1000 f 0 [start] [] = some R) :
  Calls Tryd.prog 140 #[.int .i64 tapes, encP start, .int .i64 1000, fa, fx] w (Grown tapes acc w R) := by
 have hmm := @run_makeMap Tryd.prog
 have hk0 := fit_key (hQf _ hQ0)
 unfold encP
 go_enter Tryd.func140, Tryd.ntmps140
 go_wp2_with ((with_reducible refine gate_insert rfl ?_); (refine at_put (b := w.heap.size + 2) (es := []) ?hF string_law rfl _ _ _ 179 3 (Or.inr rfl) Tryd.underlying179 (by decide) rfl _ (.int .i64 0) hk0 rfl rfl (fun p hp => by cases hp) ?hKk; (case hF => exact FMap.of_empty (blk_at _ _ _ (by simp))); intro w1 hF hg; have hK := Keep.grown hg; have b1 : w1.heap[w.heap.size]? = some (.cells #[.int .i64 0, .int .i64 0, .slice none 0 0, .slice none 0 0] 77 (0, 0)) := hK.obj (blk_alloc (blk_alloc (blk_new _ _) _) _) (by simp); have b2 : w1.heap[w.heap.size + 1]? = some (.cells #[.int .i64 tapes, .int .i64 0, .slice none 0 0, .slice none 0 0] 77 (0, 0)) := hK.obj (blk_alloc (blk_at _ _ _ (by simp)) _) (by simp)))
 have hbe : Below w.heap.size w w1 := (below_alloc (below_alloc (below_alloc (Below.refl _ _) _) _) _).grown hg (by simp <;> omega) (fun k hk => by cases hk; omega)
 have hlt1 : w.heap.size + 2 < w1.heap.size := hF.lt
 have g1 : G w tapes [] (ents [start]) [start] [] none (.slice (some ⟨w1.heap.size, 0, none⟩) 1 1) (.slice none 0 0) (.slice none 0 0) (w1.alloc (.cells #[.string (Sm.keyS start)] 9)) := by
  refine ⟨blk_alloc b1 _, blk_alloc b2 _, Kd.R_nil _ _ _ _ _, Kd.R_nil _ _ _ _ _, map_keep hF (Keep.below (below_alloc (Below.refl _ _) _)) (by simp), ?_, below_alloc hbe _⟩
  exact R_one Kd.string _ w1 _ (by omega) (okp := fun _ => False) (cs := [.string (Sm.keyS start)]) rfl (fun _ h => h.elim) ⟨trivial, by simp⟩
 clear hF hg hK b1 b2 hbe
 go_loopg [14, 15] f (fun kf v14 v15 wr => ∃ (i : Nat) (li : List Pl) (rws : List (List Nat)) (AL : Option Addr) (cL : Nat) (vA vN : Value), v14 = .slice AL li.length cL ∧ v15 = .int .i64 (i : Int) ∧ Aside0 (bfs id nxt (List.range wd) 1000 kf i li rws = some R) ∧ Aside0 (rws.length = i) ∧ i ≤ li.length ∧ li.length ≤ 1000 ∧ Aside0 (∀ k ∈ li, Q k) ∧ Aside0 (G w tapes ((li.take i).map acc) (ents li) li rws none (.slice AL li.length cL) vA vN wr))
 case atStart => exact ⟨0, [start], [], _, _, _, _, rfl, rfl, ⟨hr⟩, ⟨rfl⟩, Nat.zero_le _, by simp, ⟨fun k hk => by rw [List.mem_singleton.1 hk]; exact hQ0⟩, ⟨g1⟩⟩
 case round =>
  clear g1
  obtain ⟨wo, rfl⟩ : ∃ wo : World, wo = wr := ⟨_, rfl⟩
  obtain ⟨i, li, rws, AL, cL, vA, vN, rfl, rfl, H, hrl, hil, hli, hQl, g⟩ := hrel
  by_cases hlt : i < li.length
  ·cases gk with
   | zero => exact absurd H.out (by simp [bfs])
   | succ kf =>
   have H1 := H.out
   unfold bfs at H1
   rw [dif_pos hlt] at H1
   have HH := Aside0.mk H1
   clear H1 H
   obtain ⟨rl, _, hC⟩ := Kd.R_reads' g.out.lst
   obtain ⟨ad, rfl, k0⟩ := at_text hC i (by rw [List.length_map]; exact hlt)
   rw [List.getElem_map] at k0
   have hQk : Aside0 (Q li[i]) := ⟨hQl.out _ (List.getElem_mem hlt)⟩
   have htr := Aside0.mk (take_row (nxt := nxt) (cs := List.range wd) hlt)
   clear hC rl
   generalize hk : li[i] = k at *
   have HK := Aside0.mk hk
   clear hk
   have hlt1 : ((i : Int) < (li.length : Int)) = True := eq_true (by omega)
   have h0i : (0 ≤ (i : Int)) = True := eq_true (by omega)
   go_wp2_with fail
   have h0 : H w tapes ((li.take i).map acc) (ents li) li rws [] (.slice none 0 0) (.slice (some ad) li.length cL) vA vN wo := ⟨g.out, Kd.R_nil _ _ _ _ _⟩
   clear k0 g
   go_loopg [14, 17, 18] wd (fun kq v14 v17 v18 wq => ∃ (c : Nat) (lj : List Pl) (r : List Nat) (A' : Option Addr) (c' : Nat) (Ar : Option Addr) (cr : Nat), v14 = .slice A' lj.length c' ∧ v17 = .slice Ar r.length cr ∧ v18 = .int .i64 (c : Int) ∧ c ≤ wd ∧ Aside0 (kq = wd - c) ∧ Aside0 (r.length = c) ∧ Aside0 ((row id nxt k ((List.range wd).drop c) lj).1 = (row id nxt k (List.range wd) li).1 ∧ r ++ (row id nxt k ((List.range wd).drop c) lj).2 = (row id nxt k (List.range wd) li).2) ∧ lj.length ≤ 1000 ∧ Aside0 (∀ k ∈ lj, Q k) ∧ Aside0 (H w tapes ((li.take i).map acc) (ents lj) lj rws r (.slice Ar r.length cr) (.slice A' lj.length c') vA vN wq))
   case atStart => exact ⟨0, li, [], _, _, none, 0, rfl, rfl, rfl, Nat.zero_le _, ⟨by simp⟩, ⟨rfl⟩, ⟨by simp⟩, hli, ⟨hQl.out⟩, ⟨h0⟩⟩
   case round =>
    clear h0
    obtain ⟨c, lj, r, A', c', Ar, cr, rfl, rfl, rfl, hcw, hkq, hrc, HR, hlj, hQj, h⟩ := hrel
    replace h := h.out
    by_cases hc : c < wd
    ·have hd : (List.range wd).drop c = c :: (List.range wd).drop (c + 1) := by
      rw [List.drop_eq_getElem_cons (by simpa using hc)]; simp
     have HR1 := HR.out
     rw [hd] at HR1
     clear HR hd
     obtain ⟨f2, fn2, cap2, rfl, hfn, hnm, hbd, hcall⟩ := hnxt k c hQk.out hc
     have hQt := hQn k c hQk.out hc
     have hlt2 : ((c : Int) < (wd : Int)) = True := eq_true (by omega)
     cases hf : find id (nxt k c) lj with
     | some j =>
      rw [row_some hf] at HR1
      have HR := Aside0.mk HR1
      clear HR1
      have hjm := ents_hit hf
      have hjl := (find_some hf).1
      clear hf
      generalize nxt k c = tt at *
      unfold encP at hcall hjm
      go_wp2_with (first
       | (go_at_call 124; (with_reducible refine (hwd _).mono ?_); rintro e w2 ⟨rfl, hb2⟩; have h2 := h.step hb2)
       | ((with_reducible refine gate_dst (N := 48) rfl ?_); (refine goesV_ (some 48) rfl rfl hfn hnm hbd #[.string (Sm.keyS k), .int .i64 (c : Int)] rfl rfl (by simp only [List.map_toArray, List.map_cons, List.map_nil]; rfl) ?_; (with_reducible refine (hcall _ h2.g.bel).mono ?_); rintro e w3 ⟨rfl, hb3⟩; refine ⟨_, rfl, ?_⟩; have h4 := h2.step hb3))
       | ((with_reducible refine gate_dst (N := 52) rfl ?_); (refine at_hit h4.g.map string_law rfl _ _ 179 3 rfl Tryd.underlying179 (zero_int _) rfl _ _ rfl hjm ?_))
       | ((with_reducible refine gate_builtin (b := .append) (xs := #[.tmp 75, .tmp 77]) rfl ?_); at_builtin; (refine R_append' (Kd.int .i64) (w0 := w) w.heap.size rfl (.tmp 75) (.tmp 77) 97 3 (.int .i64 0) 8 rfl Tryd.underlying97 GwI.info_int rfl (by decide) (by decide) (.slice Ar r.length cr) (ints r) (j : Int) [.int .i64 (j : Int)] (fun k => True ∧ some k ≠ (Value.slice A' lj.length c').ownBlock) (fun _ => False) _ (by simp) rfl rfl rfl (fun _ h => h.elim) (fun k hk => ⟨trivial, Kd.fresh_ok h4.g.lst k hk⟩) h4.row h4.g.bel (Below.size h4.g.bel) (by have := hrc.out; simp [ints, GwI.ints]; omega) ?_; intro v1 w5 hR5 hb5 hg5 hat5; obtain ⟨A1, c1, hv1⟩ := Kd.R_slice hR5; have ev : (ints r ++ [(j : Int)]).length = (r ++ [j]).length := (by simp [ints, GwI.ints]); rw [ev] at hv1; subst hv1; have h5 := h4.more hg5 hat5 hR5 hb5)))
      go_roundg (wd - (c + 1))
      case measure => have := hkq.out; omega
      case rel => exact ⟨c + 1, lj, r ++ [j], A', c', A1, c1, rfl, (by simp), (by go_num), by omega, ⟨rfl⟩, ⟨by have := hrc.out; simp; omega⟩, ⟨HR.out.1, by rw [List.append_assoc]; exact HR.out.2⟩, hlj, hQj, ⟨h5⟩⟩
     | none =>
      rw [row_none hf] at HR1
      have HR := Aside0.mk HR1
      clear HR1
      have hmiss := ents_miss hf
      clear hf
      generalize nxt k c = tt at *
      have hkt := fit_key (hQf _ hQt)
      by_cases hle : lj.length + 1 ≤ 1000
      ·unfold encP at hcall
       have hx1 : ((1000 : Int) < (lj.length : Int) + 1) = False := eq_false (by omega)
       have hx2 : ((1000 : Int) < ((lj.length + 1 : Nat) : Int)) = False := eq_false (by omega)
       go_wp2_with (first
        | (go_at_call 124; (with_reducible refine (hwd _).mono ?_); rintro e w2 ⟨rfl, hb2⟩; have h2 := h.step hb2)
        | ((with_reducible refine gate_dst (N := 48) rfl ?_); (refine goesV_ (some 48) rfl rfl hfn hnm hbd #[.string (Sm.keyS k), .int .i64 (c : Int)] rfl rfl (by simp only [List.map_toArray, List.map_cons, List.map_nil]; rfl) ?_; (with_reducible refine (hcall _ h2.g.bel).mono ?_); rintro e w3 ⟨rfl, hb3⟩; refine ⟨_, rfl, ?_⟩; have h4 := h2.step hb3))
        | ((with_reducible refine gate_dst (N := 52) rfl ?_); refine at_miss h4.g.map string_law rfl _ _ 179 3 rfl Tryd.underlying179 (zero_int _) rfl _ hkt rfl hmiss ?_)
        | (at_mapUpdate; refine at_put h4.g.map string_law rfl _ _ _ 179 3 (Or.inl rfl) Tryd.underlying179 (by rw [ents_length]; unfold maxLen; omega) rfl _ (.int .i64 (lj.length : Int)) hkt rfl rfl hmiss ?_; intro w5 hF5 hg5; have hF6 : FMap Tryd.prog 9 w5 (w.heap.size + 2) (ents (lj ++ [tt])) := (by rw [ents_snoc]; exact hF5); clear hF5; have h5 := h4.put hg5 hF6)
        | ((with_reducible refine gate_builtin (b := .append) (xs := #[.tmp 62, .tmp 64]) rfl ?_); at_builtin; refine R_append' Kd.string (w0 := w) w.heap.size rfl (.tmp 62) (.tmp 64) 112 9 (.string ⟨#[]⟩) 16 rfl Tryd.underlying112 info_string rfl (by decide) (by decide) (.slice A' lj.length c') (texts lj) (Sm.keyS tt) [.string (Sm.keyS tt)] (fun k => True ∧ some k ≠ (Value.slice Ar r.length cr).ownBlock) (fun _ => False) _ (by simp) rfl rfl rfl (fun _ h => h.elim) (fun k hk => ⟨trivial, Kd.fresh_ok h5.row k hk⟩) h5.g.lst h5.g.bel (Below.size h5.g.bel) (by rw [List.length_map]; omega) ?_; intro v6 w6 hR6 hb6 hg6 hat6; have et : texts lj ++ [Sm.keyS tt] = texts (lj ++ [tt]) := (by simp [texts]); rw [et] at hR6; clear et; obtain ⟨A6, c6, hv6⟩ := Kd.R_slice hR6; have el6 : (texts (lj ++ [tt])).length = lj.length + 1 := (by simp); rw [el6] at hv6; clear el6; subst hv6; have h6 := h5.push hg6 hat6 hR6 hb6)
        | ((with_reducible refine gate_builtin (b := .append) (xs := #[.tmp 75, .tmp 77]) rfl ?_); at_builtin; refine R_append' (Kd.int .i64) (w0 := w) w.heap.size rfl (.tmp 75) (.tmp 77) 97 3 (.int .i64 0) 8 rfl Tryd.underlying97 GwI.info_int rfl (by decide) (by decide) (.slice Ar r.length cr) (ints r) (lj.length : Int) [.int .i64 (lj.length : Int)] (fun k => True ∧ some k ≠ (Value.slice A6 (lj.length + 1) c6).ownBlock) (fun _ => False) _ (by simp) rfl rfl rfl (fun _ h => h.elim) (fun k hk => ⟨trivial, Kd.fresh_ok h6.g.lst k hk⟩) h6.row h6.g.bel (Below.size h6.g.bel) (by have := hrc.out; simp [ints, GwI.ints]; omega) ?_; intro v1 w7 hR7 hb7 hg7 hat7; obtain ⟨A1, c1, hv1⟩ := Kd.R_slice hR7; have ev : (ints r ++ [(lj.length : Int)]).length = (r ++ [lj.length]).length := (by simp [ints, GwI.ints]); rw [ev] at hv1; subst hv1; have h7 := h6.more hg7 hat7 hR7 hb7))
       go_roundg (wd - (c + 1))
       case measure => have := hkq.out; omega
       case rel => exact ⟨c + 1, lj ++ [tt], r ++ [lj.length], A6, c6, A1, c1, (by simp), (by simp), (by go_num), by omega, ⟨rfl⟩, ⟨by have := hrc.out; simp; omega⟩, ⟨HR.out.1, by rw [List.append_assoc]; exact HR.out.2⟩, by rw [List.length_append, List.length_singleton]; omega, ⟨fun k hk => (List.mem_append.1 hk).elim (hQj.out k) (fun h => by rw [List.mem_singleton.1 h]; exact hQt)⟩, ⟨by have e : (lj ++ [tt]).length = lj.length + 1 := (by simp); rw [e]; exact h7⟩⟩
      ·unfold encP at hcall
       have hx1 : ((1000 : Int) < (lj.length : Int) + 1) = True := eq_true (by omega)
       have hx2 : ((1000 : Int) < ((lj.length + 1 : Nat) : Int)) = True := eq_true (by omega)
       have hRn : R = none := by
        have h1 := HH.out
        obtain ⟨m, hm⟩ := row_prefix (key := id) (nxt := nxt) (s := k) ((List.range wd).drop (c + 1)) (lj ++ [tt])
        have h2 : 1000 < (row id nxt k (List.range wd) li).1.length := by rw [← HR.out.1, hm, List.length_append, List.length_append, List.length_singleton]; omega
        rw [if_pos ⟨by decide, h2⟩] at h1
        exact (Option.some.inj h1).symm
       subst hRn
       go_wp2_with (first
        | (go_at_call 124; (with_reducible refine (hwd _).mono ?_); rintro e w2 ⟨rfl, hb2⟩; have h2 := h.step hb2)
        | ((with_reducible refine gate_dst (N := 48) rfl ?_); (refine goesV_ (some 48) rfl rfl hfn hnm hbd #[.string (Sm.keyS k), .int .i64 (c : Int)] rfl rfl (by simp only [List.map_toArray, List.map_cons, List.map_nil]; rfl) ?_; (with_reducible refine (hcall _ h2.g.bel).mono ?_); rintro e w3 ⟨rfl, hb3⟩; refine ⟨_, rfl, ?_⟩; have h4 := h2.step hb3))
        | ((with_reducible refine gate_dst (N := 52) rfl ?_); refine at_miss h4.g.map string_law rfl _ _ 179 3 rfl Tryd.underlying179 (zero_int _) rfl _ hkt rfl hmiss ?_)
        | (at_mapUpdate; refine at_put h4.g.map string_law rfl _ _ _ 179 3 (Or.inl rfl) Tryd.underlying179 (by rw [ents_length]; unfold maxLen; omega) rfl _ (.int .i64 (lj.length : Int)) hkt rfl rfl hmiss ?_; intro w5 hF5 hg5; have hF6 : FMap Tryd.prog 9 w5 (w.heap.size + 2) (ents (lj ++ [tt])) := (by rw [ents_snoc]; exact hF5); clear hF5; have h5 := h4.put hg5 hF6)
        | ((with_reducible refine gate_builtin (b := .append) (xs := #[.tmp 62, .tmp 64]) rfl ?_); at_builtin; refine R_append' Kd.string (w0 := w) w.heap.size rfl (.tmp 62) (.tmp 64) 112 9 (.string ⟨#[]⟩) 16 rfl Tryd.underlying112 info_string rfl (by decide) (by decide) (.slice A' lj.length c') (texts lj) (Sm.keyS tt) [.string (Sm.keyS tt)] (fun k => True ∧ some k ≠ (Value.slice Ar r.length cr).ownBlock) (fun _ => False) _ (by simp) rfl rfl rfl (fun _ h => h.elim) (fun k hk => ⟨trivial, Kd.fresh_ok h5.row k hk⟩) h5.g.lst h5.g.bel (Below.size h5.g.bel) (by rw [List.length_map]; omega) ?_; intro v6 w6 hR6 hb6 hg6 hat6; have et : texts lj ++ [Sm.keyS tt] = texts (lj ++ [tt]) := (by simp [texts]); rw [et] at hR6; clear et; obtain ⟨A6, c6, hv6⟩ := Kd.R_slice hR6; have el6 : (texts (lj ++ [tt])).length = lj.length + 1 := (by simp); rw [el6] at hv6; clear el6; subst hv6; have h6 := h5.push hg6 hat6 hR6 hb6; have d0 : w6.cell? ⟨w.heap.size, 0, none⟩ = some (.int .i64 0) := (blk_cell h6.g.b1 0).trans rfl; have d1 : w6.cell? ⟨w.heap.size, 1, none⟩ = some (.int .i64 0) := (blk_cell h6.g.b1 1).trans rfl; have d2 : w6.cell? ⟨w.heap.size, 2, none⟩ = some (.slice none 0 0) := (blk_cell h6.g.b1 2).trans rfl; have d3 : w6.cell? ⟨w.heap.size, 3, none⟩ = some (.slice none 0 0) := (blk_cell h6.g.b1 3).trans rfl; have f0 : w6.frozen? ⟨w.heap.size, 0, none⟩ = false := blk_frozen h6.g.b1 0; have f1 : w6.frozen? ⟨w.heap.size, 1, none⟩ = false := blk_frozen h6.g.b1 1; have f2 : w6.frozen? ⟨w.heap.size, 2, none⟩ = false := blk_frozen h6.g.b1 2; have f3 : w6.frozen? ⟨w.heap.size, 3, none⟩ = false := blk_frozen h6.g.b1 3))
       have b := h6.g.b1
       have c1 := blk_put b 0 (.int .i64 0) rfl
       have c2 := blk_put c1 1 (.int .i64 0) rfl
       have c3 := blk_put c2 2 (.slice none 0 0) rfl
       have c4 := blk_put c3 3 (.slice none 0 0) rfl
       refine bodyPost_ret (results_ct rfl _ _ (w.heap.size) 77 #[.int .i64 0, .int .i64 0, .slice none 0 0, .slice none 0 0] (0, 0) _ rfl c4 Tryd.underlying77 rfl (by kernel_rfl)) rfl ⟨?_, rfl⟩
       exact (((h6.g.bel.setCell (by simp) _).setCell (by simp) _).setCell (by simp) _).setCell (by simp) _
    ·have hcc : c = wd := by omega
     subst hcc
     have HR1 := HR.out
     simp only [List.drop_of_length_le (Nat.le_of_eq (List.length_range (n := c))), row, List.append_nil] at HR1
     have HR2 := Aside0.mk HR1
     clear HR1 HR
     obtain ⟨f2, fn2, cap2, rfl, hfn, hnm, hbd, hcall⟩ := hacc k hQk.out
     unfold encP at hcall
     have hlt2 : ((c : Int) < (c : Int)) = False := eq_false (by omega)
     go_wp2_with (go_at_call 124; (with_reducible refine (hwd _).mono ?_); rintro e w2 ⟨rfl, hb2⟩; have h2 := h.step hb2)
     refine start_ (n := 9) (S := fun w' => w'.cell? ⟨w.heap.size + 1, 2, none⟩ = some vA) (ds := [8]) (.replicate 9 false) (by kernel_rfl) rfl rfl ((blk_cell h2.g.b2 2).trans rfl) (fun hHeld => ?_)
     have h3 := h2.step (below_drew1 (Below.refl _ _))
     refine pure_ (i := 0) (N := some 79) (v := ?_) (a' := ?_) (zb 9 1) rfl rfl (by kernel_rfl) (fun _ _ _ h => h) (Or.inl ⟨by rfl, ?_⟩) ?_ ?_
     rotate_left
     ·intro w'
      go_simp
      with_reducible rfl
     rotate_left
     ·simp only [Act.put, Za, Zb, Zc, i64_w, i32_w]
      rfl
     refine pure_ (i := 2) (N := some 81) (v := ?_) (a' := ?_) (zb 9 5) rfl rfl (by kernel_rfl) (fun _ _ _ h => h) (Or.inl ⟨by rfl, ?_⟩) ?_ ?_
     rotate_left
     ·intro w'
      go_simp
      with_reducible rfl
     rotate_left
     ·simp only [Act.put, Za, Zb, Zc, i64_w, i32_w]
      rfl
     refine pure_ (i := 3) (N := some 82) (v := ?_) (a' := ?_) (zb 9 13) rfl rfl (by kernel_rfl) (fun _ _ _ h => h) (Or.inl ⟨by rfl, ?_⟩) ?_ ?_
     rotate_left
     ·intro w'
      go_simp
      with_reducible rfl
     rotate_left
     ·simp only [Act.put, Za, Zb, Zc, i64_w, i32_w]
      rfl
     refine take_ (i := 1) (N := some 80) (v := ?_) (a' := ?_) (zb 9 15) rfl rfl (by kernel_rfl) (fun _ _ _ h => h) (Or.inl ⟨by rfl, ?_⟩) hHeld ?_ ?_
     rotate_left
     ·rintro w' s0
      go_simp
      with_reducible rfl
     rotate_left
     ·simp only [Act.put, Za, Zb, Zc, i64_w, i32_w]
      rfl
     refine one_ (i := 4) (N := some 83) (zb 9 31) rfl rfl (by kernel_rfl) (by decide) (fun K hK => ?_)
     refine goesVs_ hfn hnm hbd #[.string (Sm.keyS k)] (by rfl) rfl rfl rfl (by simp only [List.map_toArray, List.map_cons, List.map_nil]; rfl) ?_
     with_reducible refine (hcall _ h3.g.bel).mono ?_
     rintro e w4 ⟨rfl, hb4⟩
     refine ⟨_, rfl, ?_⟩
     have h4 := h3.step hb4
     refine hK.out _ _ ((blk_cell h4.g.b2 2).trans rfl) (fun hHeld => ?_)
     clear hK K
     refine norm_ (a' := ?_) ?_ ?_
     rotate_left
     ·show Act.put _ (some 83) _ = _
      simp only [Act.put, Za, Zb, Zc, i64_w, i32_w]
      rfl
     refine one_ (i := 5) (N := some 84) (zb 9 63) rfl rfl (by kernel_rfl) (by decide) (fun K hK => ?_)
     refine value_ (w1 := w4.alloc (.cells #[.bool (acc k)] 4)) (v := .slice (some ⟨w4.heap.size, 0, none⟩) 1 1) (by rfl) rfl (by first | (go_simp; done) | (go_simp; rfl)) ?_
     have h5 := h4.step (below_alloc (Below.refl _ _) (.cells #[.bool (acc k)] 4))
     refine hK.out _ _ ((blk_cell h5.g.b2 2).trans rfl) (fun hHeld => ?_)
     clear hK K
     refine norm_ (a' := ?_) ?_ ?_
     rotate_left
     ·show Act.put _ (some 84) _ = _
      simp only [Act.put, Za, Zb, Zc, i64_w, i32_w]
      rfl
     refine one_ (i := 6) (N := some 85) (zb 9 127) rfl rfl (by kernel_rfl) (by decide) (fun K hK => ?_)
     refine Kd.R_append_step Kd.bool (w0 := w) w.heap.size (by rfl) (.tmp 80) (.tmp 84) 22 4 (.bool false) 1 rfl Tryd.underlying22 GwI.info_bool rfl (by decide) (by decide) vA ((li.take i).map acc) (acc k) [.bool (acc k)] (fun _ => True) (fun _ => False) rfl rfl rfl (fun _ h => h.elim) (fun _ _ => trivial) h4.g.acc h4.g.bel (Below.size h4.g.bel) (by simp <;> omega) ?_
     intro v6 w6 hR6 hb6 hg6 hat6
     obtain ⟨A6, c6, hv6⟩ := Kd.R_slice hR6
     subst hv6
     obtain ⟨b26, h6⟩ := h4.acc hg6 hR6 hb6
     refine hK.out _ _ ((blk_cell b26 2).trans rfl) (fun hHeld => ?_)
     clear hK K
     refine norm_ (a' := ?_) ?_ ?_
     rotate_left
     ·show Act.put _ (some 85) _ = _
      simp only [Act.put, Za, Zb, Zc, i64_w, i32_w]
      rfl
     refine pure_ (i := 7) (N := some 86) (v := ?_) (a' := ?_) (zb 9 255) rfl rfl (by kernel_rfl) (fun _ _ _ h => h) (Or.inl ⟨by rfl, ?_⟩) ?_ ?_
     rotate_left
     ·intro w'
      go_simp
      with_reducible rfl
     rotate_left
     ·simp only [Act.put, Za, Zb, Zc, i64_w, i32_w]
      rfl
     refine last_ (i := 8) (N := none) (zb 9 511) rfl rfl (by kernel_rfl) (by decide) (fun K hK => ?_)
     have hf6 : w6.frozen? ⟨w.heap.size + 1, 2, none⟩ = false := blk_frozen b26 2
     have hc6 : w6.cell? ⟨w.heap.size + 1, 2, none⟩ = some vA := (blk_cell b26 2).trans rfl
     refine skip_ (w1 := w6.setCell ⟨w.heap.size + 1, 2, none⟩ (.slice A6 (((li.take i).map acc) ++ [acc k]).length c6)) (by rfl) rfl (by first | (go_simp; done) | (go_simp; rfl)) ?_
     refine hK.out _ _ ?_
     refine done_ (by kernel_rfl) ?_
     clear h h2 h3 h4 h5 hf6 hc6 b26 hR6 hg6 hb6 hHeld
     generalize w6.setCell ⟨w.heap.size + 1, 2, none⟩ (.slice A6 (((li.take i).map acc) ++ [acc k]).length c6) = w7 at h6 ⊢
     have h7 := h6
     have c73 : w7.cell? ⟨w.heap.size + 1, 3, none⟩ = some vN := (blk_cell h7.g.b2 3).trans rfl
     go_wp2_with ((with_reducible refine gate_builtin (b := .append) (xs := #[.tmp 88, .tmp 90]) rfl ?_); at_builtin; refine R_append' (Kd.slice 3 (Kd.int .i64)) (w0 := w) w.heap.size rfl (.tmp 88) (.tmp 90) 75 97 (.slice none 0 0) 24 rfl Tryd.underlying75 GwI.info_ints rfl (by decide) (by decide) vN (rws.map ints) (ints r) [.slice Ar r.length cr] (fun j => True ∧ some j ≠ (Value.slice A' lj.length c').ownBlock) (fun j => (True ∧ some j ≠ (Value.slice A' lj.length c').ownBlock) ∧ some j ≠ vN.ownBlock) _ (by simp) rfl rfl (Kd.M_row (R_typed h7.row h7.g.nxt (by decide))) (fun _ hk => hk) (fun k hk => ⟨trivial, Kd.fresh_ok h7.g.lst k hk⟩) (Kd.R_mono h7.g.nxt (fun _ hk => hk.1)) h7.g.bel (Below.size h7.g.bel) (by have := hrl.out; simp; omega) ?_; intro v8 w8 hR8 hb8 hg8 hat8; obtain ⟨A8, c8, hv8⟩ := Kd.R_slice hR8; have ev8 : (rws.map ints ++ [ints r]).length = rws.length + 1 := (by simp); rw [ev8] at hv8; subst hv8; obtain ⟨b28, h8⟩ := h7.nxt hg8 hR8 hb8; have c83 : w8.cell? ⟨w.heap.size + 1, 3, none⟩ = some vN := (blk_cell b28 3).trans rfl; have f83 : w8.frozen? ⟨w.heap.size + 1, 3, none⟩ = false := blk_frozen b28 3)
     go_roundg kf
     case measure => omega
     case rel =>
      have e1 : (lj.take (i + 1)).map acc = (li.take i).map acc ++ [acc k] := by rw [HR2.out.1, htr.out.1, List.map_append]; rfl
      exact ⟨i + 1, lj, rws ++ [r], A', c', _, _, rfl, (by go_num), ⟨by have h1 := HH.out; rw [if_neg (by rw [← HR2.out.1]; omega)] at h1; rw [HR2.out.1, HR2.out.2]; exact h1⟩, ⟨by have := hrl.out; simp; omega⟩, (by rw [HR2.out.1]; exact htr.out.2), hlj, hQj, ⟨by rw [e1]; exact h8⟩⟩
  ·have hii : i = li.length := by omega
   subst hii
   cases gk with
   | zero => exact absurd H.out (by simp [bfs])
   | succ kf =>
   have H1 := H.out
   unfold bfs at H1
   rw [dif_neg (by omega)] at H1
   obtain rfl := Option.some.inj H1
   replace g := g.out
   rw [List.take_of_length_le (Nat.le_refl _)] at g
   have hlt1 : ((li.length : Int) < (li.length : Int)) = False := eq_false (by omega)
   obtain ⟨AA, cA, rfl⟩ := Kd.R_slice g.acc
   obtain ⟨AN, cN, rfl⟩ := Kd.R_slice g.nxt
   have d0 : wo.cell? ⟨w.heap.size + 1, 0, none⟩ = some (.int .i64 tapes) := (blk_cell g.b2 0).trans rfl
   have d1 : wo.cell? ⟨w.heap.size + 1, 1, none⟩ = some (.int .i64 0) := (blk_cell g.b2 1).trans rfl
   have d2 : wo.cell? ⟨w.heap.size + 1, 2, none⟩ = some (.slice AA (li.map acc).length cA) := (blk_cell g.b2 2).trans rfl
   have d3 : wo.cell? ⟨w.heap.size + 1, 3, none⟩ = some (.slice AN (rws.map ints).length cN) := (blk_cell g.b2 3).trans rfl
   have e0 : wo.cell? ⟨w.heap.size, 0, none⟩ = some (.int .i64 0) := (blk_cell g.b1 0).trans rfl
   have e1 : wo.cell? ⟨w.heap.size, 1, none⟩ = some (.int .i64 0) := (blk_cell g.b1 1).trans rfl
   have e2 : wo.cell? ⟨w.heap.size, 2, none⟩ = some (.slice none 0 0) := (blk_cell g.b1 2).trans rfl
   have e3 : wo.cell? ⟨w.heap.size, 3, none⟩ = some (.slice none 0 0) := (blk_cell g.b1 3).trans rfl
   have f0 : wo.frozen? ⟨w.heap.size, 0, none⟩ = false := blk_frozen g.b1 0
   have f1 : wo.frozen? ⟨w.heap.size, 1, none⟩ = false := blk_frozen g.b1 1
   have f2 : wo.frozen? ⟨w.heap.size, 2, none⟩ = false := blk_frozen g.b1 2
   have f3 : wo.frozen? ⟨w.heap.size, 3, none⟩ = false := blk_frozen g.b1 3
   go_wp2_with fail
   have hA := g.acc
   have hN := g.nxt
   have hB := g.bel
   have b := g.b1
   clear d0 d1 d2 d3 e0 e1 e2 e3 f0 f1 f2 f3 g
   rw [List.length_map] at hA hN
   have b1 := blk_put b 0 (.int .i64 tapes) rfl
   have b2 := blk_put b1 1 (.int .i64 0) rfl
   have b3 := blk_put b2 2 (.slice AA li.length cA) rfl
   have b4 := blk_put b3 3 (.slice AN rws.length cN) rfl
   refine bodyPost_ret (results_ct rfl _ _ (w.heap.size) 77 #[.int .i64 tapes, .int .i64 0, .slice AA li.length cA, .slice AN rws.length cN] (0, 0) _ rfl b4 Tryd.underlying77 rfl (by kernel_rfl)) rfl ⟨?_, _, _, rfl, ?_, ?_⟩
   ·exact (((hB.setCell (by simp) _).setCell (by simp) _).setCell (by simp) _).setCell (by simp) _
   ·exact Kd.R_set (Kd.R_set (Kd.R_set (Kd.R_set hA b (by decide) 0 _) b1 (by decide) 1 _) b2 (by decide) 2 _) b3 (by decide) 3 _
   ·exact Kd.R_mono (Kd.R_set (Kd.R_set (Kd.R_set (Kd.R_set hN b (by decide) 0 _) b1 (by decide) 1 _) b2 (by decide) 2 _) b3 (by decide) 3 _) (fun _ _ => trivial)
end Go.Proofs.YtbamnonamdpooaaDoor.GwS
namespace Go.Proofs.YtbamnonamdpooaaDoor.So
set_option linter.unusedVariables false
set_option linter.unusedSimpArgs false
open Go Go.RowKit Go.Proofs.YtbamnonamdpooaaDoorW.PrintWords Go.Proofs.YtbamnonamdpooaaDoorW.PrintLast Go.Proofs.YtbamnonamdpooaaDoorW.PrintMore Kp Mg Sm Cl Fv Tdy
def bitsOf (l : List Bool) : List Int := l.map (fun b => if b then 1 else 0)
theorem bits_length (l : List Bool) : (bitsOf l).length = l.length := by simp [bitsOf]
theorem bits_key (l : List Bool) : strOfNums (bitsOf l) = keyS l := by
 unfold strOfNums bitsOf keyS
 rw [List.map_map]
 congr 2
 refine List.map_congr_left (fun b _ => ?_)
 cases b <;> rfl
theorem bits_step (l : List Bool) {i : Nat} (h : i < l.length) : (bitsOf (l.take i) ++ List.replicate (l.length - i) 0).set i (if l[i] then 1 else 0) = bitsOf (l.take (i + 1)) ++ List.replicate (l.length - (i + 1)) 0 := by
 have e : l.length - i = (l.length - (i + 1)) + 1 := by omega
 have hl : (bitsOf (l.take i)).length = i := by rw [bits_length, List.length_take]; omega
 have e2 : bitsOf (l.take (i + 1)) = bitsOf (l.take i) ++ [if l[i] then 1 else 0] := by rw [List.take_succ_eq_append_getElem h]; unfold bitsOf; rw [List.map_append]; rfl
 rw [e, List.replicate_succ, List.set_append_right _ _ (by omega), hl, Nat.sub_self, List.set_cons_zero, e2, List.append_assoc]
 rfl
theorem bits_same (l : List Bool) {i : Nat} (h : i < l.length) (hb : l[i] = false) : bitsOf (l.take (i + 1)) ++ List.replicate (l.length - (i + 1)) 0 = bitsOf (l.take i) ++ List.replicate (l.length - i) 0 := by
 have e : l.length - i = (l.length - (i + 1)) + 1 := by omega
 have e2 : bitsOf (l.take (i + 1)) = bitsOf (l.take i) ++ [0] := by rw [List.take_succ_eq_append_getElem h, hb]; unfold bitsOf; rw [List.map_append]; rfl
 rw [e, List.replicate_succ, e2, List.append_assoc]
 rfl
theorem info_u8 : (Tryd.prog.info? 5).map (fun i => (i.zero, i.size, i.bytes)) = some (some (.int .u8 0), 1, 1) := by kernel_rfl
set_option maxHeartbeats 2000000 in
theorem setKey (A : Option Addr) (c : Nat) (set : List Bool) (w : World) (hC : Kd.C Kd.bool w A set.length set) (hn : set.length ≤ 1000000) :
  Calls Tryd.prog 138 #[.slice A set.length c] w fun e w' => e = .returned (.string (keyS set)) ∧ Below w.heap.size w w' := by
 go_enter Tryd.func138, Tryd.ntmps138
 go_wp2_with ((with_reducible refine gate_dst (N := 8) rfl ?_); go_loud (
  refine Kd.R_make (Kd.int .u8) (w0 := w) w.heap.size 5 rfl (N := 8) rfl 178 _ _ rfl (set.length : Int) rfl rfl Tryd.underlying178 (.int .u8 0) 1 info_u8 rfl (by decide) (by decide) (0 : Int) (ok := fun _ => True) (okp := fun _ => False) rfl (fun _ h => h.elim) trivial (by omega) (by simp; omega) (Below.refl _ _) (Nat.le_refl _) ?_
  intro v2 w2 hR2 hb2 hg2 hn2
  rw [Int.toNat_natCast] at hR2
  obtain ⟨A2, c2, hv2⟩ := Kd.R_slice hR2
  rw [List.length_replicate] at hv2
  subst hv2))
 clear hg2 hn2
 go_loopg [11] set.length (fun kq v11 W => ∃ i : Nat, v11 = .int .i64 (i : Int) ∧ Aside0 (kq = set.length - i) ∧ i ≤ set.length ∧ Aside0 (Kd.R (Kd.int .u8) 5 W w.heap.size (fun _ => True) (.slice A2 set.length c2) (bitsOf (set.take i) ++ List.replicate (set.length - i) 0)) ∧ Aside0 (Below w.heap.size w W))
 case atStart => exact ⟨0, rfl, ⟨rfl⟩, Nat.zero_le _, ⟨by simpa [bitsOf] using hR2⟩, ⟨hb2⟩⟩
 case round =>
  clear hR2 hb2
  obtain ⟨i, rfl, hq, hil, hR, hB⟩ := hrel
  by_cases hi : i < set.length
  ·have hi1 : ((i : Int) < (set.length : Int)) = True := eq_true (by omega)
   have h0i : (0 ≤ (i : Int)) = True := eq_true (by omega)
   obtain ⟨ad, rfl, k1⟩ := at_mark (Kd.C_below hC hB.out) i hi
   have hl : (bitsOf (set.take i) ++ List.replicate (set.length - i) 0).length = set.length := by rw [List.length_append, bits_length, List.length_take, List.length_replicate]; omega
   obtain ⟨g, cg, hv, hgb, _, cells, hcg⟩ := Kd.R_form hR.out (by omega)
   obtain ⟨rfl, rfl⟩ : A2 = some ⟨g, 0, none⟩ ∧ c2 = cg := by
    simp only [Value.slice.injEq] at hv
    exact ⟨hv.1, hv.2.2⟩
   have f1 : wr.frozen? ⟨g, i, none⟩ = false := blk_frozen hcg i
   obtain ⟨ob, k2⟩ : ∃ x, wr.cell? ⟨g, i, none⟩ = some x := by
    obtain ⟨a9, c9, e1, _, hK, hcc⟩ := Kd.C_get (Kd.R_reads' hR.out).2.2 (0 : Int) (i : Int) (by omega) (by omega)
    have hK' : c9 = [_] := hK
    have := hcc 0 _ (by rw [hK']; rfl)
    cases e1
    rw [Addr.add_mid] at this
    have es : (Kd.int .u8).sz = 1 := rfl
    rw [es, Int.toNat_natCast, Nat.mul_one, Nat.add_zero, Nat.zero_add] at this
    exact ⟨_, this⟩
   cases hs : set[i] with
   | true =>
    rw [hs] at k1
    have hR2 := Kd.R_putn hR.out (i : Int) 1
    have hst := bits_step set hi
    rw [hs, if_pos rfl] at hst
    rw [Int.toNat_natCast, hst] at hR2
    have hB2 := Aside0.mk (hB.out.setCell (p := ⟨g, i, none⟩) hgb (.int .u8 1))
    have hR3 := Aside0.mk hR2
    clear hR2 hcg cells hv hl hs hst
    go_wp2_with fail
    go_roundg (set.length - (i + 1))
    case measure => have := hq.out; omega
    case rel => exact ⟨i + 1, (by go_num), ⟨by simp⟩, by omega, hR3, hB2⟩
   | false =>
    rw [hs] at k1
    have hst := Aside0.mk (bits_same set hi hs)
    clear hcg cells hv hl hs
    go_wp2_with fail
    go_roundg (set.length - (i + 1))
    case measure => have := hq.out; omega
    case rel => exact ⟨i + 1, (by go_num), ⟨by simp⟩, by omega, ⟨by rw [hst.out]; exact hR.out⟩, hB⟩
  ·have hi1 : ((i : Int) < (set.length : Int)) = False := eq_false (by omega)
   have he : i = set.length := by omega
   subst he
   have hR2 := hR.out
   rw [List.take_length, Nat.sub_self, List.replicate_zero, List.append_nil] at hR2
   have hC2 := (Kd.R_reads' hR2).2.2
   rw [bits_length] at hC2
   have hcv := Kd.C_string (P := Tryd.prog) (A := A2) (c := c2) Tryd.underlying178 Tryd.underlying5 Tryd.underlying9 hC2
   rw [bits_key] at hcv
   clear hR2 hC2
   go_wp2_with fail
   go_ret
   exact ⟨rfl, hB.out⟩
theorem key_at (set : List Bool) {i : Nat} (h : i < set.length) : (keyS set)[i]'(by rw [GwS.keyS_size]; exact h) = if set[i] then 1 else 0 := by
 show ((set.map (fun b => if b then (1 : UInt8) else 0)).toArray)[i]'(by simpa using h) = _
 simp
set_option maxHeartbeats 2000000 in
/-- Whether a set has a state that ends. -/
theorem some1 (set ends : List Bool) (hl : ends.length = set.length) (hn : set.length ≤ 1000000) (g : Nat) (A : Option Addr) (c : Nat) (w : World) (hb : w.heap[g]? = some (.cells #[.slice A ends.length c] 22 (0, 0))) (hC : Kd.C Kd.bool w A ends.length ends) :
  Calls Tryd.prog 178 #[.string (keyS set), .pointer (some ⟨g, 0, none⟩)] w fun e w' => e = .returned (.bool ((List.range set.length).any (fun q => ends.getD q false && set.getD q false))) ∧ Below w.heap.size w w' := by
 obtain ⟨K, hK⟩ : ∃ K, keyS set = K := ⟨_, rfl⟩
 have hKs : K.size = set.length := by rw [← hK, GwS.keyS_size]
 have hKa : ∀ i (h : i < set.length) (h' : i < K.size), K[i]'h' = if set[i] then 1 else 0 := by
  subst hK
  exact fun i h _ => key_at set h
 rw [hK]
 have e0 : w.cell? ⟨g, 0, none⟩ = some (.slice A ends.length c) := (blk_cell hb 0).trans rfl
 have hlq := Aside0.mk hl
 have hKq := Aside0.mk hKs
 have hKaq := Aside0.mk hKa
 clear hK hKs hKa hl
 obtain ⟨B, hBq⟩ : ∃ B, Aside0 ((List.range set.length).any (fun q => ends.getD q false && set.getD q false) = B) := ⟨_, ⟨rfl⟩⟩
 rw [hBq.out]
 go_enter Tryd.func178, Tryd.ntmps178
 go_wp2_with fail
 go_loopg [8] ends.length (fun kq v8 W => ∃ i : Nat, v8 = .int .i64 (i : Int) ∧ Aside0 (kq = ends.length - i) ∧ i ≤ ends.length ∧ Aside0 (∀ q, q < i → (ends.getD q false && set.getD q false) = false) ∧ Aside0 (Below w.heap.size w W))
 case atStart => exact ⟨0, rfl, ⟨rfl⟩, Nat.zero_le _, ⟨fun q hq => by omega⟩, ⟨Below.refl _ _⟩⟩
 case round =>
  obtain ⟨i, rfl, hq, hil, hno, hB⟩ := hrel
  by_cases hi : i < ends.length
  ·have hi1 : ((i : Int) < (ends.length : Int)) = True := eq_true (by omega)
   have h0i : (0 ≤ (i : Int)) = True := eq_true (by omega)
   obtain ⟨ad, rfl, k1⟩ := at_mark (Kd.C_below hC hB.out) i hi
   have hiK : ((i : Int) < (K.size : Int)) = True := eq_true (by have := hKq.out; have := hlq.out; omega)
   have hiK2 : (i < K.size) = True := eq_true (by have := hKq.out; have := hlq.out; omega)
   have his : i < set.length := by have := hlq.out; omega
   have hka := hKaq.out i his (by have := hKq.out; omega)
   have ge : ends.getD i false = ends[i] := by simp [List.getD_eq_getElem?_getD, hi]
   have gs : set.getD i false = set[i] := by simp [List.getD_eq_getElem?_getD, his]
   cases he : ends[i] with
   | false =>
    rw [he] at k1
    have hno2 : Aside0 (∀ q, q < i + 1 → (ends.getD q false && set.getD q false) = false) := ⟨fun q hq => by
     rcases Nat.lt_succ_iff_lt_or_eq.1 hq with h | rfl
     ·exact hno.out q h
     ·rw [ge, he]; rfl⟩
    clear hka ge gs he
    go_wp2_with fail
    go_roundg (ends.length - (i + 1))
    case measure => have := hq.out; omega
    case rel => exact ⟨i + 1, (by go_num), ⟨by simp⟩, by omega, hno2, hB⟩
   | true =>
    rw [he] at k1
    cases hs : set[i] with
    | false =>
     rw [hs, if_neg (by decide)] at hka
     have hno2 : Aside0 (∀ q, q < i + 1 → (ends.getD q false && set.getD q false) = false) := ⟨fun q hq => by
      rcases Nat.lt_succ_iff_lt_or_eq.1 hq with h | rfl
      ·exact hno.out q h
      ·rw [gs, hs, Bool.and_false]⟩
     clear ge gs he hs
     go_wp2_with fail
     go_roundg (ends.length - (i + 1))
     case measure => have := hq.out; omega
     case rel => exact ⟨i + 1, (by go_num), ⟨by simp⟩, by omega, hno2, hB⟩
    | true =>
     rw [hs, if_pos rfl] at hka
     have hBt : B = true := by
      rw [← hBq.out, List.any_eq_true]
      exact ⟨i, List.mem_range.2 his, by rw [ge, gs, he, hs]; rfl⟩
     subst hBt
     clear ge gs he hs
     go_wp2_with fail
     go_ret
     exact ⟨rfl, hB.out⟩
  ·have hi1 : ((i : Int) < (ends.length : Int)) = False := eq_false (by omega)
   have hBf : B = false := by
    rw [← hBq.out, List.any_eq_false]
    intro q hq
    have := hno.out q (by have := List.mem_range.1 hq; have := hlq.out; omega)
    rw [this]; decide
   subst hBf
   go_wp2_with fail
   go_ret
   exact ⟨rfl, hB.out⟩
end Go.Proofs.YtbamnonamdpooaaDoor.So
namespace Go.Proofs.YtbamnonamdpooaaDoor.So
set_option linter.unusedVariables false
set_option linter.unusedSimpArgs false
open Go Go.RowKit Go.Proofs.YtbamnonamdpooaaDoorW.PrintWords Go.Proofs.YtbamnonamdpooaaDoorW.PrintLast Go.Proofs.YtbamnonamdpooaaDoorW.PrintMore Kp Mg Sm Cl Fv Tdy Wi
/-- The marks behind the first d columns. -/
def mkD (rows : List (List Nat)) (col : Nat → Nat) (set : List Bool) : Nat → List Bool
 | 0 => List.replicate set.length false
 | d + 1 => markC rows (col d) set (mkD rows col set d)
theorem mkD_length (rows : List (List Nat)) (col : Nat → Nat) (set : List Bool) : ∀ d, (mkD rows col set d).length = set.length
 | 0 => by simp [mkD]
 | d + 1 => by rw [mkD, markC_length, mkD_length rows col set d]
set_option maxHeartbeats 4000000 in
set_option maxRecDepth 100000 in
theorem some2 (g gt t tp : Nat) (start : Int) (accs : List Bool) (rows : List (List Nat)) (wd : Nat) (hcl : Closed wd rows accs) (hn : rows.length ≤ 1000000) (set : List Bool) (hset : set.length = rows.length) (c : Nat) (ds : List Nat) (hdl : ds.length + 1 = t) (h0 : 0 < ds.length) (h9 : ds.length ≤ 9) (hd3 : ∀ x ∈ ds, x < 3) (htp : tp ≤ ds.length)
  (col : Nat → Nat) (hcol : ∀ d, d < 3 → colN (insN ds tp d) = col d ∧ col d < wd)
  (hdig : ∀ W, Calls Tryd.prog 69 #[.int .i64 (ds.length : Int), .int .i64 (c : Int)] W fun e W' => ∃ v, e = .returned v ∧ Kd.R (Kd.int .i64) 3 W' W.heap.size (fun _ => True) v (ints ds) ∧ Below W.heap.size W W')
  (w : World) (hm : Mach w g (t : Int) start accs (rows.map ints)) (hb : w.heap[gt]? = some (.cells #[.int .i64 (tp : Int)] 3 (0, 0))) :
  Calls Tryd.prog 179 #[.string (keyS set), .int .i64 (c : Int), .pointer (some ⟨g, 0, none⟩), .pointer (some ⟨gt, 0, none⟩)] w fun e w' => e = .returned (.string (keyS (mkD rows col set 3))) ∧ Below w.heap.size w w' := by
 obtain ⟨AA, ca, AN, cn, hbM, hCA, hCN, hca, hcn⟩ := hm.lies
 rw [List.length_map] at hbM hCN hcn
 obtain ⟨K, hK⟩ : ∃ K, keyS set = K := ⟨_, rfl⟩
 have hKs : K.size = set.length := by rw [← hK, GwS.keyS_size]
 have hKa : ∀ i (h : i < set.length) (h' : i < K.size), K[i]'h' = if set[i] then 1 else 0 := by
  subst hK
  exact fun i h _ => key_at set h
 rw [hK]
 have m0 : w.cell? ⟨g, 0, none⟩ = some (.int .i64 (t : Int)) := (blk_cell hbM 0).trans rfl
 have w1 : wrap64 ((t : Int) - 1) = (ds.length : Int) := by unfold wrap64; omega
 have hlen := hcl.len
 have hwide := Aside0.mk hcl.wide
 have hstep := Aside0.mk hcl.lt
 have hsq := Aside0.mk hset
 have hKq := Aside0.mk hKs
 have hKaq := Aside0.mk hKa
 have hlq := Aside0.mk hlen
 have hdq := Aside0.mk hdl
 have hal : accs.length = set.length := by omega
 rw [hal] at hbM hCA
 have hsn : set.length ≤ 1000000 := by omega
 clear hK hKs hKa hset hlen hdl hcl hm hal hca hcn
 go_enter Tryd.func179, Tryd.ntmps179
 go_wp2_with (first
  | (go_at_call 69; go_loud (
    with_reducible refine (hdig _).mono ?_
    rintro e wa ⟨v7, rfl, hR7, hba⟩
    obtain ⟨A7, c7, e7⟩ := Kd.R_slice hR7
    rw [ints_length] at e7
    subst e7
    have hC7 := (Kd.R_reads' hR7).2.2
    rw [ints_length] at hC7
    have m2 : wa.cell? ⟨g, 2, none⟩ = some (.slice AA set.length ca) := (blk_cell (blk_below hbM hba) 2).trans rfl
    clear hR7))
  | ((with_reducible refine gate_dst (N := 20) rfl ?_); go_loud (
    refine Kd.R_make Kd.bool (w0 := wa) wa.heap.size 4 rfl (N := 20) rfl 22 _ _ rfl (set.length : Int) rfl rfl Tryd.underlying22 (.bool false) 1 GwI.info_bool rfl (by decide) (by decide) false (ok := fun _ => True) (okp := fun _ => False) rfl (fun _ h => h.elim) trivial (by omega) (by simp; omega) (Below.refl _ _) (Nat.le_refl _) ?_
    intro v2 wb hR2 hb2 hg2 hn2
    rw [Int.toNat_natCast] at hR2
    obtain ⟨A2, c2, hv2⟩ := Kd.R_slice hR2
    rw [List.length_replicate] at hv2
    subst hv2)))
 clear hn2 m2 hg2
 go_loopg [9] 3 (fun kq v9 W => ∃ d : Nat, v9 = .int .i64 (d : Int) ∧ Aside0 (kq = 3 - d) ∧ d ≤ 3 ∧ Aside0 (Kd.R Kd.bool 4 W wa.heap.size (fun _ => True) (.slice A2 set.length c2) (mkD rows col set d)) ∧ Aside0 (Below wa.heap.size wa W))
 case atStart => exact ⟨0, rfl, ⟨rfl⟩, by omega, ⟨hR2⟩, ⟨hb2⟩⟩
 case round =>
  clear hR2 hb2
  obtain ⟨wo, rfl⟩ : ∃ wo : World, wo = wr := ⟨_, rfl⟩
  obtain ⟨d, rfl, hq, hdl3, hR, hB⟩ := hrel
  by_cases hd : d < 3
  ·have hd1 : ((d : Int) ≤ 2) = True := eq_true (by omega)
   have hd2 : ((2 : Int) < (d : Int)) = False := eq_false (by omega)
   have o3 : wo.cell? ⟨gt, 0, none⟩ = some (.int .i64 (tp : Int)) := (blk_cell (blk_below hb (below_step hba hB.out)) 0).trans rfl
   have hcd := hcol d hd
   have hce := Aside0.mk hcd.1
   have hcw : col d < wd := hcd.2
   have hml := Aside0.mk (mkD_length rows col set d)
   clear hcd
   go_wp2_with (go_at_call 176; go_loud (
    with_reducible refine (with_ ds tp d htp h0 h9 hd3 hd A7 c7 _ (Kd.C_below hC7 hB.out)).mono ?_
    rintro e wc ⟨he, hbc⟩
    rw [hce.out] at he
    subst he
    have hBc := below_step hB.out hbc))
   have hRc := Kd.R_below hR.out hbc
   clear o3 hbc
   go_loopg [31] set.length (fun kz v31 W => ∃ q : Nat, v31 = .int .i64 (q : Int) ∧ Aside0 (kz = set.length - q) ∧ q ≤ set.length ∧ Aside0 (Kd.R Kd.bool 4 W wa.heap.size (fun _ => True) (.slice A2 set.length c2) ((List.range q).foldl (markF rows (col d) set) (mkD rows col set d))) ∧ Aside0 (Below wa.heap.size wa W))
   case atStart => exact ⟨0, rfl, ⟨rfl⟩, Nat.zero_le _, ⟨hRc⟩, ⟨hBc⟩⟩
   case round =>
    clear hRc hBc
    obtain ⟨q, rfl, hz, hql, hS, hC⟩ := hrel
    by_cases hqs : q < set.length
    ·have hq1 : ((q : Int) < (set.length : Int)) = True := eq_true (by omega)
     have h0q : (0 ≤ (q : Int)) = True := eq_true (by omega)
     have hqK : ((q : Int) < (K.size : Int)) = True := eq_true (by have := hKq.out; omega)
     have hqK2 : (q < K.size) = True := eq_true (by have := hKq.out; omega)
     have hka := hKaq.out q hqs (by have := hKq.out; omega)
     have gs : set.getD q false = set[q] := by simp [List.getD_eq_getElem?_getD, hqs]
     have hst : (List.range (q + 1)).foldl (markF rows (col d) set) (mkD rows col set d) = markF rows (col d) set ((List.range q).foldl (markF rows (col d) set) (mkD rows col set d)) q := by
      rw [List.range_succ, List.foldl_append]; rfl
     have hfl : ((List.range q).foldl (markF rows (col d) set) (mkD rows col set d)).length = set.length := by rw [foldF_length, hml.out]
     obtain ⟨mk, hmk⟩ : ∃ mk, (List.range q).foldl (markF rows (col d) set) (mkD rows col set d) = mk := ⟨_, rfl⟩
     rw [hmk] at hst hfl hS
     clear hmk
     cases hs : set[q] with
     | false =>
      rw [hs, if_neg (by decide)] at hka
      have hst2 : Aside0 ((List.range (q + 1)).foldl (markF rows (col d) set) (mkD rows col set d) = mk) := ⟨by rw [hst]; unfold markF; rw [gs, hs]; rfl⟩
      clear hst gs hs hfl
      go_wp2_with fail
      go_roundg (set.length - (q + 1))
      case measure => have := hz.out; omega
      case rel => exact ⟨q + 1, (by go_num), ⟨by simp⟩, by omega, ⟨by rw [hst2.out]; exact hS.out⟩, hC⟩
     | true =>
      rw [hs, if_pos rfl] at hka
      have hqr : q < rows.length := by have := hsq.out; omega
      have hBw := below_step hba hC.out
      have o3 : wr.cell? ⟨g, 3, none⟩ = some (.slice AN rows.length cn) := (blk_cell (blk_below hbM hBw) 3).trans rfl
      obtain ⟨a2, rfl, A9, c9, e9, hl9, hC9⟩ := at_row (Kd.C_below hCN hBw) q (by rw [List.length_map]; exact hqr)
      rw [List.getElem_map, ints_length, hwide.out _ (List.getElem_mem hqr)] at e9 hl9 hC9
      have hcr : col d < rows[q].length := by rw [hwide.out _ (List.getElem_mem hqr)]; exact hcw
      obtain ⟨a3, rfl, et⟩ := at_num hC9 (col d) (by rw [ints_length]; exact hcr)
      rw [ints_get _ _ _ hcr] at et
      have hgo : go rows q (col d) = rows[q][col d] := by unfold go; simp [List.getD_eq_getElem?_getD, hqr, hcr]
      have htl : rows[q][col d] < rows.length := hstep.out _ (List.getElem_mem hqr) _ (List.getElem_mem hcr)
      have hst2 : Aside0 ((List.range (q + 1)).foldl (markF rows (col d) set) (mkD rows col set d) = mk.set rows[q][col d] true) := ⟨by rw [hst]; unfold markF; rw [gs, hs, if_pos rfl, hgo]⟩
      obtain ⟨T, hT⟩ : ∃ T, rows[q][col d] = T := ⟨_, rfl⟩
      rw [hT] at et htl hst2
      have hTs : T < set.length := by have := hsq.out; omega
      have hqr1 : ((q : Int) < (rows.length : Int)) = True := eq_true (by omega)
      have hcw1 : ((col d : Int) < (wd : Int)) = True := eq_true (by omega)
      have h0c : (0 ≤ (col d : Int)) = True := eq_true (by omega)
      have hT1 : ((T : Int) < (set.length : Int)) = True := eq_true (by omega)
      have h0T : (0 ≤ (T : Int)) = True := eq_true (by omega)
      obtain ⟨gm, cg, hv, hgb, _, cells, hcg⟩ := Kd.R_form hS.out (by omega)
      obtain ⟨rfl, rfl⟩ : A2 = some ⟨gm, 0, none⟩ ∧ c2 = cg := by
       simp only [Value.slice.injEq] at hv
       exact ⟨hv.1, hv.2.2⟩
      have f1 : wr.frozen? ⟨gm, T, none⟩ = false := blk_frozen hcg T
      obtain ⟨ob, k2⟩ : ∃ x, wr.cell? ⟨gm, T, none⟩ = some x := by
       obtain ⟨a9, e1, k1⟩ := at_mark (Kd.R_reads' hS.out).2.2 T (by omega)
       cases e1
       rw [Addr.add_mid, Nat.zero_add] at k1
       exact ⟨_, k1⟩
      have hS2 := Kd.R_putn hS.out (T : Int) true
      rw [Int.toNat_natCast] at hS2
      have hS3 := Aside0.mk hS2
      have hC2 := Aside0.mk (hC.out.setCell (p := ⟨gm, T, none⟩) hgb (.bool true))
      clear hS2 hst gs hs hfl hgo hT hcg cells hv hl9 hC9 hcr
      go_wp2_with fail
      go_roundg (set.length - (q + 1))
      case measure => have := hz.out; omega
      case rel => exact ⟨q + 1, (by go_num), ⟨by simp⟩, by omega, ⟨by rw [hst2.out]; exact hS3.out⟩, hC2⟩
    ·have hq1 : ((q : Int) < (set.length : Int)) = False := eq_false (by omega)
     have he : q = set.length := by omega
     subst he
     go_wp2_with fail
     go_roundg (3 - (d + 1))
     case measure => have := hq.out; omega
     case rel => exact ⟨d + 1, (by go_num), ⟨by simp⟩, by omega, hS, hC⟩
  ·have hd1 : ((d : Int) ≤ 2) = False := eq_false (by omega)
   have hd2 : ((2 : Int) < (d : Int)) = True := eq_true (by omega)
   have he : d = 3 := by omega
   subst he
   have hml := Aside0.mk (mkD_length rows col set 3)
   go_wp2_with (go_at_call 138; go_loud (
    have q := setKey A2 c2 (mkD rows col set 3) wo (by rw [← hml.out] at hR; exact (Kd.R_reads' hR.out).2.2) (by rw [hml.out]; omega)
    rw [hml.out] at q
    with_reducible refine q.mono ?_
    rintro e wd2 ⟨rfl, hbd⟩
    have hBd := below_step (below_step hba hB.out) hbd))
   go_ret
   exact ⟨rfl, hBd⟩
end Go.Proofs.YtbamnonamdpooaaDoor.So
namespace Go.Proofs.YtbamnonamdpooaaDoor.So
set_option linter.unusedVariables false
set_option linter.unusedSimpArgs false
open Go Go.RowKit Go.Proofs.YtbamnonamdpooaaDoorW.PrintWords Go.Proofs.YtbamnonamdpooaaDoorW.PrintLast Go.Proofs.YtbamnonamdpooaaDoorW.PrintMore Kp Mg Sm Cl Fv Tdy Wi
def cntF (l : List Bool) : Nat := (l.filter (fun b => !b)).length
theorem cntF_set {l : List Bool} {q : Nat} (hq : q < l.length) (h : l[q] = false) : cntF (l.set q true) + 1 = cntF l := by
 unfold cntF
 induction l generalizing q with
 | nil => simp at hq
 | cons a l ih =>
  cases q with
  | zero =>
   have : a = false := h
   subst this
   simp
  | succ q =>
   have := ih (q := q) (by simpa using hq) (by simpa using h)
   cases a <;> simp at this ⊢ <;> omega
theorem set_getD {l : List Bool} {q x : Nat} (hq : q < l.length) : (l.set q true).getD x false = true ↔ x = q ∨ l.getD x false = true := by
 rw [List.getD_eq_getElem?_getD, List.getD_eq_getElem?_getD, List.getElem?_set]
 by_cases h : q = x
 ·subst h
  simp [hq]
 ·rw [if_neg h]
  constructor
  ·exact fun h => .inr h
  ·rintro (h2 | h2)
   ·exact absurd h2.symm h
   ·exact h2
/-- What a look at the found ends says of a set. -/
theorem acc_is {rows : List (List Nat)} {accs ends set : List Bool} {p0 p1 n : Nat} (h : ∀ q, q < n → (ends.getD q false = true ↔ Sm.Ends rows accs p0 p1 q)) (hl : set.length = n) : (List.range set.length).any (fun q => ends.getD q false && set.getD q false) = accS rows accs p0 p1 set := by
 cases hc : (List.range set.length).any (fun q => ends.getD q false && set.getD q false) with
 | true =>
  rw [List.any_eq_true] at hc
  obtain ⟨q, hq, he⟩ := hc
  rw [Bool.and_eq_true] at he
  exact (accS_true he.2 ((h q (by rw [← hl]; exact List.mem_range.1 hq)).1 he.1)).symm
 | false =>
  rw [List.any_eq_false] at hc
  refine (accS_step hl h (fun q hq hh => ?_)).symm
  have := hc q (List.mem_range.2 (by omega))
  rw [hh.1, hh.2] at this
  exact this rfl
/-- What stands in memory. -/
structure Mm (w0 : World) (t tp s : Nat) (AA : Option Addr) (na ca : Nat) (AN : Option Addr) (nn cn : Nat) (gE : Nat) (vE : Value) (ends : List Bool) (W : World) : Prop where
 bM : W.heap[w0.heap.size]? = some (.cells #[.int .i64 (t : Int), .int .i64 (s : Int), .slice AA na ca, .slice AN nn cn] 77 (0, 0))
 bT : W.heap[w0.heap.size + 1]? = some (.cells #[.int .i64 (tp : Int)] 3 (0, 0))
 bR : W.heap[w0.heap.size + 2]? = some (.cells #[.int .i64 0, .int .i64 0, .slice none 0 0, .slice none 0 0] 77 (0, 0))
 bE : W.heap[gE]? = some (.cells #[vE] 22 (0, 0))
 row : Kd.R Kd.bool 4 W w0.heap.size (fun _ => True) vE ends
 bel : Below w0.heap.size w0 W
section
variable {w0 : World} {t tp s : Nat} {AA : Option Addr} {na ca : Nat} {AN : Option Addr} {nn cn gE : Nat} {vE : Value} {ends : List Bool} {W W' : World}
theorem Mm.step (h : Mm w0 t tp s AA na ca AN nn cn gE vE ends W) (hb : Below W.heap.size W W') : Mm w0 t tp s AA na ca AN nn cn gE vE ends W' := ⟨blk_below h.bM hb, blk_below h.bT hb, blk_below h.bR hb, blk_below h.bE hb, Kd.R_below h.row hb, below_step h.bel hb⟩
theorem Mm.put {b n c : Nat} (h : Mm w0 t tp s AA na ca AN nn cn gE (.slice (some ⟨b, 0, none⟩) n c) ends W) (hb : w0.heap.size ≤ b) (q : Nat) : Mm w0 t tp s AA na ca AN nn cn gE (.slice (some ⟨b, 0, none⟩) n c) (ends.set q true) (W.setCell ⟨b, q, none⟩ (.bool true)) := by
 have hs := Keep.set W ⟨b, q, none⟩ (.bool true)
 have o : ∀ E : List Nat, (∀ q ∈ E, q ≠ 4) → Off W (some b) E := fun E hE => Off.row h.row hE
 exact ⟨hs.obj h.bM (off_ne h.bM (o _ (by decide))), hs.obj h.bT (off_ne h.bT (o _ (by decide))), hs.obj h.bR (off_ne h.bR (o _ (by decide))), hs.obj h.bE (off_ne h.bE (o _ (by decide))), Kd.R_putn h.row (q : Int) true, h.bel.setCell hb _⟩
end
/-- A row of marks at a place. -/
theorem mark_at {W : World} {e base b n c i : Nat} {ok : Nat → Prop} {l : List Bool} (h : Kd.bool.R e W base ok (.slice (some ⟨b, 0, none⟩) n c) l) (hi : i < l.length) : W.cell? ⟨b, i, none⟩ = some (.bool l[i]) := by
 obtain ⟨_, _, hC⟩ := Kd.R_reads' h
 obtain ⟨ad, e1, k1⟩ := at_mark hC i hi
 cases e1
 rwa [Addr.add_mid, Nat.zero_add] at k1
theorem lie_at {W : World} {e base b n c i : Nat} {ok : Nat → Prop} {l : List Bool} (h : Kd.bool.R e W base ok (.slice (some ⟨b, 0, none⟩) n c) l) (hi : i < l.length) : W.frozen? ⟨b, i, none⟩ = false ∧ base ≤ b := by
 obtain ⟨g, cg, hv, hgb, _, cells, hcg⟩ := Kd.R_form h (by omega)
 obtain ⟨rfl, _⟩ : b = g ∧ True := by
  simp only [Value.slice.injEq, Option.some.injEq, Addr.mk.injEq] at hv
  exact ⟨hv.1.1, trivial⟩
 exact ⟨blk_frozen hcg i, hgb⟩
/-- What 'some' gives. -/
def SomeG (t : Nat) (rows : List (List Nat)) (accs : List Bool) (p0 p1 : Nat) (w : World) (R : Option (List (List Bool) × List (List Nat))) (e : Ending) (w' : World) : Prop := Below w.heap.size w w' ∧ match R with
 | some (l, rws) => ∃ vA vN, e = .returned (.tuple #[.agg #[.int .i64 (t : Int), .int .i64 0, vA, vN], .bool true]) ∧ Kd.R Kd.bool 4 w' w.heap.size (fun _ => True) vA (l.map (accS rows accs p0 p1)) ∧ Kd.R (Kd.slice 3 (Kd.int .i64)) 97 w' w.heap.size (fun _ => True) vN (rws.map ints)
 | none => e = .returned (.tuple #[.agg #[.int .i64 0, .int .i64 0, .slice none 0 0, .slice none 0 0], .bool false])
set_option maxHeartbeats 16000000 in
set_option maxRecDepth 100000 in
theorem some_ (t tp s : Nat) (ht : 1 ≤ t) (ht9 : t ≤ 9) (htp : tp ≤ t) (accs : List Bool) (rows : List (List Nat)) (wd wd2 : Nat) (hwd2 : wd2 ≤ 30) (hcl : Closed wd rows accs) (hn : rows.length ≤ 1000000) (hs : s < rows.length)
  (dg : Nat → List Nat) (hdl : ∀ c, c < wd2 → (dg c).length = t) (hd3 : ∀ c, c < wd2 → ∀ x ∈ dg c, x < 3)
  (hdig : ∀ W c, c < wd2 → Calls Tryd.prog 69 #[.int .i64 (t : Int), .int .i64 (c : Int)] W fun e W' => ∃ v, e = .returned v ∧ Kd.R (Kd.int .i64) 3 W' W.heap.size (fun _ => True) v (ints (dg c)) ∧ Below W.heap.size W W')
  (hwid : ∀ W, Calls Tryd.prog 124 #[.int .i64 (t : Int)] W fun e W' => e = .returned (.int .i64 (wd2 : Int)) ∧ Below W.heap.size W W')
  (col : Nat → Nat → Nat) (hcol : ∀ c, c < wd2 → ∀ d, d < 3 → colN (insN (dg c) tp d) = col c d ∧ col c d < wd)
  (p0 p1 : Nat) (hp0 : colN (insN (List.replicate t 2) tp 0) = p0) (hp1 : colN (insN (List.replicate t 2) tp 1) = p1) (hp0w : p0 < wd) (hp1w : p1 < wd)
  (w : World) (AA : Option Addr) (ca : Nat) (AN : Option Addr) (cn : Nat) (hA : Kd.C Kd.bool w AA accs.length accs) (hN : Kd.C (Kd.slice 3 (Kd.int .i64)) w AN rows.length (rows.map ints)) (hca : accs.length ≤ ca) (hcn : rows.length ≤ cn)
  (f : Nat) (R : Option (List (List Bool) × List (List Nat))) (hR : bfs id (nextS rows col) (List.range wd2) 1000 f 0 [(List.replicate rows.length false).set s true] [] = some R) :
  Calls Tryd.prog 156 #[.agg #[.int .i64 ((t + 1 : Nat) : Int), .int .i64 (s : Int), .slice AA accs.length ca, .slice AN rows.length cn], .int .i64 (tp : Int)] w (SomeG t rows accs p0 p1 w R) := by
 obtain ⟨T, hT⟩ : ∃ T, t + 1 = T := ⟨_, rfl⟩
 rw [hT]
 have hlen := hcl.len
 have hlt2 : ∀ q, q < rows.length → go rows q p0 < rows.length ∧ go rows q p1 < rows.length := fun q hq => ⟨hcl.step hq hp0w, hcl.step hq hp1w⟩
 have hltq := Aside0.mk hlt2
 have hclq := Aside0.mk hcl
 have hRq := Aside0.mk hR
 have hnq := Aside0.mk hn
 have hdlq := Aside0.mk hdl
 have hp0q := Aside0.mk hp0
 have hp1q := Aside0.mk hp1
 have hal : accs.length = rows.length := hlen.symm
 have hHA : Aside0 (∀ W, Below w.heap.size w W → Kd.C Kd.bool W AA rows.length accs) := ⟨fun W hb => by rw [← hal]; exact Kd.C_below hA hb⟩
 have hAcc := Aside0.mk hal
 rw [hal] at hca ⊢
 clear hlt2 hcl hR hdl hal hlen hp0 hp1 hA
 have wt : wrap64 ((T : Int) - 1) = (t : Int) := by unfold wrap64; omega
 have hTq := Aside0.mk hT
 clear hT
 obtain ⟨wz, hwz⟩ : ∃ wz : World, wz = ((w.alloc (.cells #[.int .i64 (T : Int), .int .i64 (s : Int), .slice AA rows.length ca, .slice AN rows.length cn] 77)).alloc (.cells #[.int .i64 (tp : Int)] 3)).alloc (.cells #[.int .i64 0, .int .i64 0, .slice none 0 0, .slice none 0 0] 77) := ⟨_, rfl⟩
 have b0 : wz.heap[w.heap.size]? = some (.cells #[.int .i64 (T : Int), .int .i64 (s : Int), .slice AA rows.length ca, .slice AN rows.length cn] 77 (0, 0)) := by rw [hwz]; exact blk_alloc (blk_alloc (blk_new _ _) _) _
 have b1 : wz.heap[w.heap.size + 1]? = some (.cells #[.int .i64 (tp : Int)] 3 (0, 0)) := by rw [hwz]; exact blk_alloc (blk_at _ _ _ (by simp)) _
 have b2 : wz.heap[w.heap.size + 2]? = some (.cells #[.int .i64 0, .int .i64 0, .slice none 0 0, .slice none 0 0] 77 (0, 0)) := by rw [hwz]; exact blk_at _ _ _ (by simp)
 have hbz : Below w.heap.size w wz := by rw [hwz]; exact below_alloc (below_alloc (below_alloc (Below.refl _ _) _) _) _
 have c02 : wz.cell? ⟨w.heap.size, 2, none⟩ = some (.slice AA rows.length ca) := (blk_cell b0 2).trans rfl
 rw [hwz] at c02
 go_enter Tryd.func156, Tryd.ntmps156
 go_wp2_with (go_at_call 91; go_loud (
  have q := Mo.clone wz AA ca accs (by have := hAcc.out; omega) (by have := hAcc.out; have := hnq.out; omega) (by rw [hAcc.out]; exact hHA.out _ hbz)
  rw [hAcc.out, hwz] at q
  with_reducible refine q.mono ?_
  rintro e wa ⟨vE, rfl, hRE, hba⟩
  rw [← hwz] at hba hRE
  obtain ⟨gv, cv, hv, _, _, _, _⟩ := Kd.R_form hRE (by have := hAcc.out; omega)
  rw [hAcc.out] at hv
  subst hv))
 clear c02
 have hM : Mm w T tp s AA rows.length ca AN rows.length cn wa.heap.size (.slice (some ⟨gv, 0, none⟩) rows.length cv) accs (wa.alloc (.cells #[.slice (some ⟨gv, 0, none⟩) rows.length cv] 22)) :=
  ⟨blk_alloc (blk_below b0 hba) _, blk_alloc (blk_below b1 hba) _, blk_alloc (blk_below b2 hba) _, blk_new _ _, Kd.R_lower (Kd.R_below hRE (below_alloc (Below.refl _ _) _)) (Below.size hbz), below_alloc (below_step hbz hba) _⟩
 obtain ⟨gE, hgE⟩ : ∃ gE, wa.heap.size = gE := ⟨_, rfl⟩
 rw [hgE] at hM ⊢
 generalize wa.alloc (.cells #[.slice (some ⟨gv, 0, none⟩) rows.length cv] 22) = wb at *
 clear b0 b1 b2 hbz hba hRE hgE hwz
 have h1 := hM.step (below_drew1 (Below.refl _ _))
 clear hM
 have hSS : ∀ W', Mm w T tp s AA rows.length ca AN rows.length cn gE (.slice (some ⟨gv, 0, none⟩) rows.length cv) accs W' → (fun w' => w'.cell? ⟨w.heap.size, 0, none⟩ = some (.int .i64 (T : Int)) ∧ w'.cell? ⟨w.heap.size + 1, 0, none⟩ = some (.int .i64 (tp : Int))) W' := fun W' h => ⟨(blk_cell h.bM 0).trans rfl, (blk_cell h.bT 0).trans rfl⟩
 refine start_ (n := 14) (S := fun w' => w'.cell? ⟨w.heap.size, 0, none⟩ = some (.int .i64 (T : Int)) ∧ w'.cell? ⟨w.heap.size + 1, 0, none⟩ = some (.int .i64 (tp : Int))) (ds := []) (.replicate 14 false) (by kernel_rfl) rfl rfl (hSS _ h1) (fun hHeld => ?_)
 refine pure_ (i := 0) (N := some 15) (v := ?_) (a' := ?_) (zb 14 1) rfl rfl (by kernel_rfl) (fun _ _ _ h => h) (Or.inl ⟨by rfl, ?_⟩) ?_ ?_
 rotate_left
 ·intro w'
  go_simp
  with_reducible rfl
 rotate_left
 ·simp only [Act.put, Za, Zb, Zc, i64_w, i32_w]
  rfl
 refine pure_ (i := 6) (N := some 21) (v := ?_) (a' := ?_) (zb 14 65) rfl rfl (by kernel_rfl) (fun _ _ _ h => h) (Or.inl ⟨by rfl, ?_⟩) ?_ ?_
 rotate_left
 ·intro w'
  go_simp
  with_reducible rfl
 rotate_left
 ·simp only [Act.put, Za, Zb, Zc, i64_w, i32_w]
  rfl
 refine take_ (i := 1) (N := some 16) (v := ?_) (a' := ?_) (zb 14 67) rfl rfl (by kernel_rfl) (fun _ _ _ h => h) (Or.inl ⟨by rfl, ?_⟩) hHeld ?_ ?_
 rotate_left
 ·rintro w' ⟨s1, s2⟩
  go_simp
  with_reducible rfl
 rotate_left
 ·simp only [Act.put, Za, Zb, Zc, i64_w, i32_w]
  rfl
 refine take_ (i := 4) (N := some 19) (v := ?_) (a' := ?_) (zb 14 83) rfl rfl (by kernel_rfl) (fun _ _ _ h => h) (Or.inl ⟨by rfl, ?_⟩) hHeld ?_ ?_
 rotate_left
 ·rintro w' ⟨s1, s2⟩
  go_simp
  with_reducible rfl
 rotate_left
 ·simp only [Act.put, Za, Zb, Zc, i64_w, i32_w]
  rfl
 refine take_ (i := 7) (N := some 22) (v := ?_) (a' := ?_) (zb 14 211) rfl rfl (by kernel_rfl) (fun _ _ _ h => h) (Or.inl ⟨by rfl, ?_⟩) hHeld ?_ ?_
 rotate_left
 ·rintro w' ⟨s1, s2⟩
  go_simp
  with_reducible rfl
 rotate_left
 ·simp only [Act.put, Za, Zb, Zc, i64_w, i32_w]
  rfl
 refine take_ (i := 10) (N := some 25) (v := ?_) (a' := ?_) (zb 14 1235) rfl rfl (by kernel_rfl) (fun _ _ _ h => h) (Or.inl ⟨by rfl, ?_⟩) hHeld ?_ ?_
 rotate_left
 ·rintro w' ⟨s1, s2⟩
  go_simp
  with_reducible rfl
 rotate_left
 ·simp only [Act.put, Za, Zb, Zc, i64_w, i32_w]
  rfl
 refine pure_ (i := 2) (N := some 17) (v := ?_) (a' := ?_) (zb 14 1239) rfl rfl (by kernel_rfl) (fun _ _ _ h => h) (Or.inl ⟨by rfl, ?_⟩) ?_ ?_
 rotate_left
 ·intro w'
  go_simp
  with_reducible rfl
 rotate_left
 ·simp only [Act.put, Za, Zb, Zc, i64_w, i32_w]
  rfl
 refine pure_ (i := 8) (N := some 23) (v := ?_) (a' := ?_) (zb 14 1495) rfl rfl (by kernel_rfl) (fun _ _ _ h => h) (Or.inl ⟨by rfl, ?_⟩) ?_ ?_
 rotate_left
 ·intro w'
  go_simp
  with_reducible rfl
 rotate_left
 ·simp only [Act.put, Za, Zb, Zc, i64_w, i32_w]
  rfl
 refine one_ (i := 3) (N := some 18) (zb 14 1503) rfl rfl (by kernel_rfl) (by decide) (fun K hK => ?_)
 refine goes_ Tryd.func177 (by kernel_rfl) rfl #[.int .i64 (t : Int)] (by rfl) rfl rfl (by (try simp only [List.map_toArray, List.map_cons, List.map_nil]); first | done | (go_simp; done) | rfl) ?_
 with_reducible refine (padded t (by omega) _).mono ?_
 rintro e wc ⟨v, rfl, r, hb⟩
 obtain ⟨Ax, cx, hv, hcx, hCx⟩ := Kd.R_reads r
 rw [ints_length, List.length_replicate] at hv hCx
 subst hv
 refine ⟨_, rfl, ?_⟩
 have h2 := h1.step hb
 clear r hb
 refine hK.out _ _ (hSS _ h2) (fun hHeld => ?_)
 clear hK K
 refine norm_ (a' := ?_) ?_ ?_
 rotate_left
 ·show Act.put _ (some 18) _ = _
  simp only [Act.put, Za, Zb, Zc, i64_w, i32_w]
  rfl
 refine one_ (i := 5) (N := some 20) (zb 14 1535) rfl rfl (by kernel_rfl) (by decide) (fun K hK => ?_)
 refine goes_ Tryd.func176 (by kernel_rfl) rfl #[.slice Ax t cx, .int .i64 (tp : Int), .int .i64 0] (by rfl) rfl rfl (by (try simp only [List.map_toArray, List.map_cons, List.map_nil]); first | done | rfl) ?_
 have qx := with_ (List.replicate t 2) tp 0 (by rw [List.length_replicate]; exact htp) (by rw [List.length_replicate]; omega) (by rw [List.length_replicate]; exact ht9) (by intro x hx; rw [List.eq_of_mem_replicate hx]; decide) (by decide) Ax cx _ (by rw [List.length_replicate]; exact hCx)
 rw [List.length_replicate, hp0q.out, show ((0 : Nat) : Int) = 0 from rfl] at qx
 with_reducible refine qx.mono ?_
 rintro e wd_ ⟨rfl, hb⟩
 refine ⟨_, rfl, ?_⟩
 have h3 := h2.step hb
 clear hb
 refine hK.out _ _ (hSS _ h3) (fun hHeld => ?_)
 clear hK K
 refine norm_ (a' := ?_) ?_ ?_
 rotate_left
 ·show Act.put _ (some 20) _ = _
  simp only [Act.put, Za, Zb, Zc, i64_w, i32_w]
  rfl
 refine one_ (i := 9) (N := some 24) (zb 14 2047) rfl rfl (by kernel_rfl) (by decide) (fun K hK => ?_)
 refine goes_ Tryd.func177 (by kernel_rfl) rfl #[.int .i64 (t : Int)] (by rfl) rfl rfl (by (try simp only [List.map_toArray, List.map_cons, List.map_nil]); first | done | (go_simp; done) | rfl) ?_
 with_reducible refine (padded t (by omega) _).mono ?_
 rintro e we ⟨v, rfl, r, hb⟩
 obtain ⟨Ay, cy, hv, hcy, hCy⟩ := Kd.R_reads r
 rw [ints_length, List.length_replicate] at hv hCy
 subst hv
 refine ⟨_, rfl, ?_⟩
 have h4 := h3.step hb
 clear r hb
 refine hK.out _ _ (hSS _ h4) (fun hHeld => ?_)
 clear hK K
 refine norm_ (a' := ?_) ?_ ?_
 rotate_left
 ·show Act.put _ (some 24) _ = _
  simp only [Act.put, Za, Zb, Zc, i64_w, i32_w]
  rfl
 refine one_ (i := 11) (N := some 26) (zb 14 4095) rfl rfl (by kernel_rfl) (by decide) (fun K hK => ?_)
 refine goes_ Tryd.func176 (by kernel_rfl) rfl #[.slice Ay t cy, .int .i64 (tp : Int), .int .i64 1] (by rfl) rfl rfl (by (try simp only [List.map_toArray, List.map_cons, List.map_nil]); first | done | rfl) ?_
 have qy := with_ (List.replicate t 2) tp 1 (by rw [List.length_replicate]; exact htp) (by rw [List.length_replicate]; omega) (by rw [List.length_replicate]; exact ht9) (by intro x hx; rw [List.eq_of_mem_replicate hx]; decide) (by decide) Ay cy _ (by rw [List.length_replicate]; exact hCy)
 rw [List.length_replicate, hp1q.out, show ((1 : Nat) : Int) = 1 from rfl] at qy
 with_reducible refine qy.mono ?_
 rintro e wf ⟨rfl, hb⟩
 refine ⟨_, rfl, ?_⟩
 have h5 := h4.step hb
 clear hb
 refine hK.out _ _ (hSS _ h5) (fun hHeld => ?_)
 clear hK K
 refine norm_ (a' := ?_) ?_ ?_
 rotate_left
 ·show Act.put _ (some 26) _ = _
  simp only [Act.put, Za, Zb, Zc, i64_w, i32_w]
  rfl
 refine one_ (i := 12) (N := some 27) (zb 14 8191) rfl rfl (by kernel_rfl) (by decide) (fun K hK => ?_)
 refine value_ (w1 := wf.alloc (.cells #[.int .i64 (p0 : Int), .int .i64 (p1 : Int)] 3)) (v := .slice (some ⟨wf.heap.size, 0, none⟩) 2 2) (by rfl) rfl (by first | (go_simp; done) | (go_simp; rfl)) ?_
 have hbl := blk_new wf (.cells #[.int .i64 (p0 : Int), .int .i64 (p1 : Int)] 3)
 have h6 := h5.step (below_alloc (Below.refl _ _) (.cells #[.int .i64 (p0 : Int), .int .i64 (p1 : Int)] 3))
 refine hK.out _ _ (hSS _ h6) (fun hHeld => ?_)
 clear hK K
 refine norm_ (a' := ?_) ?_ ?_
 rotate_left
 ·show Act.put _ (some 27) _ = _
  simp only [Act.put, Za, Zb, Zc, i64_w, i32_w]
  rfl
 refine pure_ (i := 13) (N := some 7) (v := ?_) (a' := ?_) (zb 14 16383) rfl rfl (by kernel_rfl) (fun _ _ _ h => h) (Or.inl ⟨by rfl, ?_⟩) ?_ ?_
 rotate_left
 ·intro w'
  go_simp
  with_reducible rfl
 rotate_left
 ·simp only [Act.put, Za, Zb, Zc, i64_w, i32_w]
  rfl
 refine done_ (by kernel_rfl) ?_
 simp only [wt]
 obtain ⟨gL, hgL⟩ : ∃ gL, wf.heap.size = gL := ⟨_, rfl⟩
 rw [hgL] at hbl ⊢
 have hbw := h5.bel
 have hgLb : w.heap.size ≤ gL := by rw [← hgL]; exact Below.size hbw
 generalize wf.alloc (.cells #[.int .i64 (p0 : Int), .int .i64 (p1 : Int)] 3) = wg at *
 have hbl2 : Aside0 (wg.heap[gL]? = some (.cells #[.int .i64 (p0 : Int), .int .i64 (p1 : Int)] 3 (0, 0))) := ⟨hbl⟩
 clear h1 h2 h3 h4 h5 hSS hHeld hgL hbw hbl hCx hCy qx qy hcx hcy
 have hacc0 : Aside0 (∀ q, accs.getD q false = true → Sm.Ends rows accs p0 p1 q) := ⟨fun q h => Sm.Ends.acc h⟩
 go_wp2_with fail
 go_loopg [8] (cntF accs + 1) (fun kq v8 W => ∃ (b : Bool) (ends : List Bool), v8 = .bool b ∧ Aside0 (kq = if b then cntF ends + 1 else 0) ∧ Aside0 (ends.length = rows.length) ∧ Aside0 (∀ q, accs.getD q false = true → ends.getD q false = true) ∧ Aside0 (∀ q, ends.getD q false = true → Sm.Ends rows accs p0 p1 q) ∧
  Aside0 (b = false → ∀ q, q < rows.length → ends.getD (go rows q p0) false = true ∨ ends.getD (go rows q p1) false = true → ends.getD q false = true) ∧ Aside0 (W.heap[gL]? = some (.cells #[.int .i64 (p0 : Int), .int .i64 (p1 : Int)] 3 (0, 0))) ∧ Aside0 (Mm w T tp s AA rows.length ca AN rows.length cn gE (.slice (some ⟨gv, 0, none⟩) rows.length cv) ends W))
 case atStart => exact ⟨true, accs, rfl, ⟨rfl⟩, hAcc, ⟨fun q h => h⟩, hacc0, ⟨fun h => (by cases h)⟩, hbl2, ⟨h6⟩⟩
 case round =>
  clear h6 hbl2
  obtain ⟨wo, rfl⟩ : ∃ wo : World, wo = wr := ⟨_, rfl⟩
  obtain ⟨b, ends, rfl, hkq, hel, hea, heE, hst, hbL, h⟩ := hrel
  replace h := h.out
  cases b with
  | true =>
   have c3 : wo.cell? ⟨w.heap.size, 3, none⟩ = some (.slice AN rows.length cn) := (blk_cell h.bM 3).trans rfl
   go_wp2_with fail
   clear c3
   go_loopg [8, 32] rows.length (fun kz v8 v32 W => ∃ (b : Bool) (i : Nat) (es : List Bool), v8 = .bool b ∧ v32 = .int .i64 (i : Int) ∧ Aside0 (kz = rows.length - i) ∧ i ≤ rows.length ∧ Aside0 (es.length = rows.length) ∧ Aside0 (∀ q, accs.getD q false = true → es.getD q false = true) ∧ Aside0 (∀ q, es.getD q false = true → Sm.Ends rows accs p0 p1 q) ∧
    Aside0 (cntF es ≤ cntF ends ∧ (b = true → cntF es < cntF ends) ∧ (b = false → es = ends ∧ ∀ q, q < i → ends.getD (go rows q p0) false = true ∨ ends.getD (go rows q p1) false = true → ends.getD q false = true)) ∧ Aside0 (W.heap[gL]? = some (.cells #[.int .i64 (p0 : Int), .int .i64 (p1 : Int)] 3 (0, 0))) ∧ Aside0 (Mm w T tp s AA rows.length ca AN rows.length cn gE (.slice (some ⟨gv, 0, none⟩) rows.length cv) es W))
   case atStart => exact ⟨false, 0, ends, rfl, rfl, ⟨rfl⟩, Nat.zero_le _, hel, hea, heE, ⟨Nat.le_refl _, fun h => (by cases h), fun _ => ⟨rfl, fun q hq => (by omega)⟩⟩, hbL, ⟨h⟩⟩
   case round =>
    clear h hel hea heE hst hbL
    obtain ⟨b, i, es, rfl, rfl, hkz, hil, hel, hea, heE, hcn2, hbL, h⟩ := hrel
    replace h := h.out
    by_cases hi : i < rows.length
    ·have hi1 : ((i : Int) < (rows.length : Int)) = True := eq_true (by omega)
     have h0i : (0 ≤ (i : Int)) = True := eq_true (by omega)
     obtain ⟨ad, rfl, A9, c9, e9, hl9, hC9⟩ := at_row (Kd.C_below hN h.bel) i (by rw [List.length_map]; exact hi)
     rw [List.getElem_map, ints_length, hclq.out.wide _ (List.getElem_mem hi)] at e9 hl9 hC9
     have hr0 : p0 < rows[i].length := by rw [hclq.out.wide _ (List.getElem_mem hi)]; exact hp0w
     have hr1 : p1 < rows[i].length := by rw [hclq.out.wide _ (List.getElem_mem hi)]; exact hp1w
     obtain ⟨a9, rfl, k0⟩ := at_num hC9 p0 (by rw [ints_length]; exact hr0)
     obtain ⟨a9', e9', k1⟩ := at_num hC9 p1 (by rw [ints_length]; exact hr1)
     cases e9'
     rw [ints_get _ _ _ hr0] at k0
     rw [ints_get _ _ _ hr1] at k1
     have g0 : go rows i p0 = rows[i][p0] := by unfold go; simp [List.getD_eq_getElem?_getD, hi, hr0]
     have g1 : go rows i p1 = rows[i][p1] := by unfold go; simp [List.getD_eq_getElem?_getD, hi, hr1]
     have hx := hltq.out i hi
     rw [← g0] at k0
     rw [← g1] at k1
     obtain ⟨x0, hx0⟩ : ∃ x, go rows i p0 = x := ⟨_, rfl⟩
     obtain ⟨x1, hx1⟩ : ∃ x, go rows i p1 = x := ⟨_, rfl⟩
     rw [hx0, hx1] at hx
     rw [hx0] at k0
     rw [hx1] at k1
     have hx0q := Aside0.mk hx0
     have hx1q := Aside0.mk hx1
     have l0 : wr.cell? ⟨gL, 0, none⟩ = some (.int .i64 (p0 : Int)) := (blk_cell hbL.out 0).trans rfl
     have l1 : wr.cell? ⟨gL, 1, none⟩ = some (.int .i64 (p1 : Int)) := (blk_cell hbL.out 1).trans rfl
     have cE : wr.cell? ⟨gE, 0, none⟩ = some (.slice (some ⟨gv, 0, none⟩) rows.length cv) := (blk_cell h.bE 0).trans rfl
     have hsl := hel.out
     have ei := mark_at h.row (i := i) (by omega)
     have e0 := mark_at h.row (i := x0) (by omega)
     have e1 := mark_at h.row (i := x1) (by omega)
     have fl := lie_at h.row (i := i) (by omega)
     have f1 := fl.1
     have hgv := fl.2
     have gi : es.getD i false = es[i] := by simp [List.getD_eq_getElem?_getD, hsl, hi]
     have gx0 : es.getD x0 false = es[x0] := by simp [List.getD_eq_getElem?_getD, hsl, hx.1]
     have gx1 : es.getD x1 false = es[x1] := by simp [List.getD_eq_getElem?_getD, hsl, hx.2]
     have hx01 : ((x0 : Int) < (rows.length : Int)) = True := eq_true (by omega)
     have h0x0 : (0 ≤ (x0 : Int)) = True := eq_true (by omega)
     have hx11 : ((x1 : Int) < (rows.length : Int)) = True := eq_true (by omega)
     have h0x1 : (0 ≤ (x1 : Int)) = True := eq_true (by omega)
     have hp0w1 : ((p0 : Int) < (wd : Int)) = True := eq_true (by omega)
     have h0p0 : (0 ≤ (p0 : Int)) = True := eq_true (by omega)
     have hp1w1 : ((p1 : Int) < (wd : Int)) = True := eq_true (by omega)
     have h0p1 : (0 ≤ (p1 : Int)) = True := eq_true (by omega)
     clear fl g0 g1 hx0 hx1 hC9 hl9
     have hquiet : ∀ (hno : es[i] = true ∨ (es[x0] = false ∧ es[x1] = false)), Aside0 (b = false → es = ends ∧ ∀ q, q < i + 1 → ends.getD (go rows q p0) false = true ∨ ends.getD (go rows q p1) false = true → ends.getD q false = true) := fun hno => ⟨fun hb => by
      obtain ⟨he, hall⟩ := hcn2.out.2.2 hb
      refine ⟨he, fun q hq hh => ?_⟩
      rcases Nat.lt_succ_iff_lt_or_eq.1 hq with h2 | rfl
      ·exact hall q h2 hh
      ·rw [← he] at hh ⊢
       rw [hx0q.out, hx1q.out, gx0, gx1] at hh
       rw [gi]
       rcases hno with h3 | ⟨h3, h4⟩
       ·exact h3
       ·rw [h3, h4] at hh; rcases hh with h5 | h5 <;> cases h5⟩
     have hfound : ∀ (h1 : es[i] = false) (h2 : es[x0] = true ∨ es[x1] = true), Aside0 ((∀ q, accs.getD q false = true → (es.set i true).getD q false = true) ∧ (∀ q, (es.set i true).getD q false = true → Sm.Ends rows accs p0 p1 q) ∧ cntF (es.set i true) < cntF ends) := fun h1 h2 => ⟨by
      refine ⟨fun q hq => (set_getD (by omega)).2 (.inr (hea.out q hq)), fun q hq => ?_, ?_⟩
      ·rcases (set_getD (by omega)).1 hq with rfl | h3
       ·rcases h2 with h2 | h2
        ·exact Sm.Ends.step (c := p0) (.inl rfl) (by rw [hx0q.out]; exact heE.out x0 (by rw [gx0, h2]))
        ·exact Sm.Ends.step (c := p1) (.inr rfl) (by rw [hx1q.out]; exact heE.out x1 (by rw [gx1, h2]))
       ·exact heE.out q h3
      ·have := cntF_set (l := es) (q := i) (by omega) h1
       have := hcn2.out.1
       omega⟩
     have hput := Aside0.mk (h.put hgv i)
     have hputL : Aside0 ((wr.setCell ⟨gv, i, none⟩ (.bool true)).heap[gL]? = some (.cells #[.int .i64 (p0 : Int), .int .i64 (p1 : Int)] 3 (0, 0))) := ⟨(Keep.set wr ⟨gv, i, none⟩ (.bool true)).obj hbL.out (off_ne hbL.out (Off.row h.row (by decide)))⟩
     have hq := Aside0.mk h
     have hslq := Aside0.mk hsl
     clear h gi gx0 gx1
     cases hEi : es[i]'(by have := hslq.out; omega) with
     | true =>
      rw [hEi] at ei
      have hqq := hquiet (.inl hEi)
      clear hquiet hfound hput hputL e0 e1 hEi
      go_wp2_with fail
      go_quiet (fail)
      have h7 := hq.out.step (pw_below_drewN (Below.refl _ _) nq)
      have hbL7 := blk_below hbL.out (pw_below_drewN (Below.refl _ _) nq)
      generalize wr.drewN nq = wn at *
      go_wp2_with fail
      go_roundg (rows.length - (i + 1))
      case measure => have := hkz.out; omega
      case rel => exact ⟨b, i + 1, es, rfl, (by go_num), ⟨by simp⟩, by omega, hslq, hea, heE, ⟨hcn2.out.1, hcn2.out.2.1, hqq.out⟩, ⟨hbL7⟩, ⟨h7⟩⟩
     | false =>
      rw [hEi] at ei
      cases hE0 : es[x0]'(by have := hslq.out; omega) with
      | true =>
       rw [hE0] at e0
       have hff := hfound hEi (.inl hE0)
       clear hquiet hfound e1 hE0 hEi
       go_wp2_with fail
       go_quiet (fail)
       have h7 := hq.out.step (pw_below_drewN (Below.refl _ _) nq)
       have hbL7 := blk_below hbL.out (pw_below_drewN (Below.refl _ _) nq)
       have cE7 : (wr.drewN nq).cell? ⟨gE, 0, none⟩ = some (.slice (some ⟨gv, 0, none⟩) rows.length cv) := (blk_cell h7.bE 0).trans rfl
       have ei7 : (wr.drewN nq).cell? ⟨gv, i, none⟩ = some (.bool false) := ei
       have f7 : (wr.drewN nq).frozen? ⟨gv, i, none⟩ = false := f1
       have h8 := h7.put hgv i
       have hbL8 := (Keep.set (wr.drewN nq) ⟨gv, i, none⟩ (.bool true)).obj hbL7 (off_ne hbL7 (Off.row h7.row (by decide)))
       clear cE ei f1 hput hputL
       generalize wr.drewN nq = wn at *
       go_wp2_with fail
       go_roundg (rows.length - (i + 1))
       case measure => have := hkz.out; omega
       case rel => exact ⟨true, i + 1, es.set i true, rfl, (by go_num), ⟨by simp⟩, by omega, ⟨by rw [List.length_set]; exact hslq.out⟩, ⟨hff.out.1⟩, ⟨hff.out.2.1⟩, ⟨by have := hff.out.2.2; omega, fun _ => hff.out.2.2, fun h => (by cases h)⟩, ⟨hbL8⟩, ⟨h8⟩⟩
      | false =>
       rw [hE0] at e0
       cases hE1 : es[x1]'(by have := hslq.out; omega) with
       | true =>
        rw [hE1] at e1
        have hff := hfound hEi (.inr hE1)
        clear hquiet hfound hE0 hE1 hEi
        go_wp2_with fail
        go_quiet (fail)
        have h7 := hq.out.step (pw_below_drewN (Below.refl _ _) nq)
        have hbL7 := blk_below hbL.out (pw_below_drewN (Below.refl _ _) nq)
        have cE7 : (wr.drewN nq).cell? ⟨gE, 0, none⟩ = some (.slice (some ⟨gv, 0, none⟩) rows.length cv) := (blk_cell h7.bE 0).trans rfl
        have ei7 : (wr.drewN nq).cell? ⟨gv, i, none⟩ = some (.bool false) := ei
        have f7 : (wr.drewN nq).frozen? ⟨gv, i, none⟩ = false := f1
        have h8 := h7.put hgv i
        have hbL8 := (Keep.set (wr.drewN nq) ⟨gv, i, none⟩ (.bool true)).obj hbL7 (off_ne hbL7 (Off.row h7.row (by decide)))
        clear cE ei f1 hput hputL
        generalize wr.drewN nq = wn at *
        go_wp2_with fail
        go_roundg (rows.length - (i + 1))
        case measure => have := hkz.out; omega
        case rel => exact ⟨true, i + 1, es.set i true, rfl, (by go_num), ⟨by simp⟩, by omega, ⟨by rw [List.length_set]; exact hslq.out⟩, ⟨hff.out.1⟩, ⟨hff.out.2.1⟩, ⟨by have := hff.out.2.2; omega, fun _ => hff.out.2.2, fun h => (by cases h)⟩, ⟨hbL8⟩, ⟨h8⟩⟩
       | false =>
        rw [hE1] at e1
        have hqq := hquiet (.inr ⟨hE0, hE1⟩)
        clear hquiet hfound hput hputL hE0 hE1 hEi
        go_wp2_with fail
        go_quiet (fail)
        have h7 := hq.out.step (pw_below_drewN (Below.refl _ _) nq)
        have hbL7 := blk_below hbL.out (pw_below_drewN (Below.refl _ _) nq)
        generalize wr.drewN nq = wn at *
        go_wp2_with fail
        go_roundg (rows.length - (i + 1))
        case measure => have := hkz.out; omega
        case rel => exact ⟨b, i + 1, es, rfl, (by go_num), ⟨by simp⟩, by omega, hslq, hea, heE, ⟨hcn2.out.1, hcn2.out.2.1, hqq.out⟩, ⟨hbL7⟩, ⟨h7⟩⟩
    ·have hi1 : ((i : Int) < (rows.length : Int)) = False := eq_false (by omega)
     have he : i = rows.length := by omega
     subst he
     go_wp2_with fail
     go_roundg (if b then cntF es + 1 else 0)
     case measure =>
      have h1 := hkq.out
      simp at h1
      cases b with
      | true => rw [if_pos rfl]; have := hcn2.out.2.1 rfl; omega
      | false => rw [if_neg (by decide)]; omega
     case rel => exact ⟨b, es, rfl, ⟨rfl⟩, hel, hea, heE, ⟨fun hb q hq hh => by
      obtain ⟨he, hall⟩ := hcn2.out.2.2 hb
      rw [he] at hh ⊢
      exact hall q hq hh⟩, hbL, ⟨h⟩⟩
  | false =>
   have hfix : Aside0 (∀ q, q < rows.length → (ends.getD q false = true ↔ Sm.Ends rows accs p0 p1 q)) := ⟨fun q hq => ends_fix hltq.out (fun q _ h => hea.out q h) (hst.out rfl) heE.out hq⟩
   clear hst hea heE hkq hbL
   have c2 : wo.cell? ⟨w.heap.size, 2, none⟩ = some (.slice AA rows.length ca) := (blk_cell h.bM 2).trans rfl
   go_wp2_with ((with_reducible refine gate_dst (N := 71) rfl ?_); go_loud (
    refine Kd.R_make Kd.bool (w0 := wo) wo.heap.size 4 rfl (N := 71) rfl 22 _ _ rfl (rows.length : Int) rfl rfl Tryd.underlying22 (.bool false) 1 GwI.info_bool rfl (by decide) (by decide) false (ok := fun _ => True) (okp := fun _ => False) rfl (fun _ h => h.elim) trivial (by omega) (by have := hnq.out; simp; omega) (Below.refl _ _) (Nat.le_refl _) ?_
    intro v2 wj hRj hbj hgj hnj
    rw [Int.toNat_natCast] at hRj
    have hrl : (List.replicate rows.length false).length = rows.length := List.length_replicate
    obtain ⟨gs, cs, hvs, hgs, _, cells, hcs⟩ := Kd.R_form hRj (by omega)
    rw [List.length_replicate] at hvs
    subst hvs
    have hj := h.step hbj
    have d1 : wj.cell? ⟨w.heap.size, 1, none⟩ = some (.int .i64 (s : Int)) := (blk_cell hj.bM 1).trans rfl
    have d2 := mark_at hRj (i := s) (by rw [List.length_replicate]; exact hs)
    rw [List.getElem_replicate] at d2
    have f2 : wj.frozen? ⟨gs, s, none⟩ = false := blk_frozen hcs s
    have hs1 : ((s : Int) < (rows.length : Int)) = True := eq_true (by omega)
    have h0s : (0 ≤ (s : Int)) = True := eq_true (by omega)))
   have hRs := Kd.R_putn hRj (s : Int) true
   have hks := (Keep.set wj ⟨gs, s, none⟩ (.bool true))
   have hbs : Below wo.heap.size wo (wj.setCell ⟨gs, s, none⟩ (.bool true)) := hbj.setCell hgs _
   have h8 := h.step hbs
   rw [Int.toNat_natCast] at hRs
   obtain ⟨ST, hST⟩ : ∃ ST, (List.replicate rows.length false).set s true = ST := ⟨_, rfl⟩
   have hSTl : ST.length = rows.length := by rw [← hST]; simp
   have hSTq := Aside0.mk hST
   rw [hST] at hRs
   clear c2 d1 d2 f2 hks hj hRj hbj hgj hnj hrl hcs cells hST
   obtain ⟨ww, hww⟩ : ∃ ww, wj.setCell ⟨gs, s, none⟩ (.bool true) = ww := ⟨_, rfl⟩
   change Kd.R Kd.bool 4 (wj.setCell ⟨gs, s, none⟩ (.bool true)) wo.heap.size (fun _ => True) (.slice (some ⟨gs, 0, none⟩) rows.length cs) ST at hRs
   rw [hww] at hRs h8 hbs ⊢
   clear hww
   have k1 := h8.step (below_drew1 (Below.refl _ _))
   have kR := Kd.R_below hRs (below_drew1 (Below.refl _ _))
   have hSS : ∀ W', Mm w T tp s AA rows.length ca AN rows.length cn gE (.slice (some ⟨gv, 0, none⟩) rows.length cv) ends W' → (fun w' => w'.cell? ⟨w.heap.size, 0, none⟩ = some (.int .i64 (T : Int))) W' := fun W' h => (blk_cell h.bM 0).trans rfl
   refine start_ (n := 12) (S := fun w' => w'.cell? ⟨w.heap.size, 0, none⟩ = some (.int .i64 (T : Int))) (ds := [10]) (.replicate 12 false) (by kernel_rfl) rfl rfl (hSS _ k1) (fun hHeld => ?_)
   refine pure_ (i := 0) (N := some 76) (v := ?_) (a' := ?_) (zb 12 1) rfl rfl (by kernel_rfl) (fun _ _ _ h => h) (Or.inl ⟨by rfl, ?_⟩) ?_ ?_
   rotate_left
   ·intro w'
    go_simp
    with_reducible rfl
   rotate_left
   ·simp only [Act.put, Za, Zb, Zc, i64_w, i32_w]
    rfl
   refine pure_ (i := 3) (N := some 79) (v := ?_) (a' := ?_) (zb 12 9) rfl rfl (by kernel_rfl) (fun _ _ _ h => h) (Or.inl ⟨by rfl, ?_⟩) ?_ ?_
   rotate_left
   ·intro w'
    go_simp
    with_reducible rfl
   rotate_left
   ·simp only [Act.put, Za, Zb, Zc, i64_w, i32_w]
    rfl
   refine pure_ (i := 5) (N := some 81) (v := ?_) (a' := ?_) (zb 12 41) rfl rfl (by kernel_rfl) (fun _ _ _ h => h) (Or.inl ⟨by rfl, ?_⟩) ?_ ?_
   rotate_left
   ·intro w'
    go_simp
    with_reducible rfl
   rotate_left
   ·simp only [Act.put, Za, Zb, Zc, i64_w, i32_w]
    rfl
   refine pure_ (i := 6) (N := some 82) (v := ?_) (a' := ?_) (zb 12 105) rfl rfl (by kernel_rfl) (fun _ _ _ h => h) (Or.inl ⟨by rfl, ?_⟩) ?_ ?_
   rotate_left
   ·intro w'
    go_simp
    with_reducible rfl
   rotate_left
   ·simp only [Act.put, Za, Zb, Zc, i64_w, i32_w]
    rfl
   refine take_ (i := 1) (N := some 77) (v := ?_) (a' := ?_) (zb 12 107) rfl rfl (by kernel_rfl) (fun _ _ _ h => h) (Or.inl ⟨by rfl, ?_⟩) hHeld ?_ ?_
   rotate_left
   ·rintro w' s1
    go_simp
    with_reducible rfl
   rotate_left
   ·simp only [Act.put, Za, Zb, Zc, i64_w, i32_w]
    rfl
   refine pure_ (i := 2) (N := some 78) (v := ?_) (a' := ?_) (zb 12 111) rfl rfl (by kernel_rfl) (fun _ _ _ h => h) (Or.inl ⟨by rfl, ?_⟩) ?_ ?_
   rotate_left
   ·intro w'
    go_simp
    with_reducible rfl
   rotate_left
   ·simp only [Act.put, Za, Zb, Zc, i64_w, i32_w]
    rfl
   refine one_ (i := 4) (N := some 80) (zb 12 127) rfl rfl (by kernel_rfl) (by decide) (fun K hK => ?_)
   refine goes_ Tryd.func138 (by kernel_rfl) rfl #[.slice (some ⟨gs, 0, none⟩) rows.length cs] (by rfl) rfl rfl (by (try simp only [List.map_toArray, List.map_cons, List.map_nil]); first | done | rfl) ?_
   have q := setKey (some ⟨gs, 0, none⟩) cs ST _ (Kd.R_reads' kR).2.2 (by rw [hSTl]; exact hnq.out)
   rw [hSTl] at q
   with_reducible refine q.mono ?_
   rintro e wk ⟨rfl, hbk⟩
   refine ⟨_, rfl, ?_⟩
   have k2 := k1.step hbk
   clear q
   refine hK.out _ _ (hSS _ k2) (fun hHeld => ?_)
   clear hK K
   refine norm_ (a' := ?_) ?_ ?_
   rotate_left
   ·show Act.put _ (some 80) _ = _
    simp only [Act.put, Za, Zb, Zc, i64_w, i32_w]
    rfl
   refine one_ (i := 7) (N := some 83) (zb 12 255) rfl rfl (by kernel_rfl) (by decide) (fun K hK => ?_)
   refine goes_ Tryd.func140 (by kernel_rfl) rfl #[.int .i64 (t : Int), GwS.encP ST, .int .i64 1000, .func (.func 178) #[] #[.pointer (some ⟨gE, 0, none⟩)], .func (.func 179) #[] #[.pointer (some ⟨w.heap.size, 0, none⟩), .pointer (some ⟨w.heap.size + 1, 0, none⟩)]] (by rfl) rfl rfl (by (try simp only [List.map_toArray, List.map_cons, List.map_nil]); first | done | rfl | (simp only [wt]; rfl)) ?_
   have q := GwS.grow t ST (.func (.func 178) #[] #[.pointer (some ⟨gE, 0, none⟩)]) (.func (.func 179) #[] #[.pointer (some ⟨w.heap.size, 0, none⟩), .pointer (some ⟨w.heap.size + 1, 0, none⟩)]) (fun set => (List.range set.length).any (fun q => ends.getD q false && set.getD q false)) (nextS rows col) wk wd2 hwd2 hwid
    (fun set => set.length = rows.length) hSTl (fun k hk => by show k.length ≤ _; rw [hk]; exact hnq.out) (fun k c hk _ => by rw [nextS_length]; exact hk)
    (fun k hk => ⟨_, _, _, rfl, Tryd.func178, rfl, rfl, fun W' hb => by
     have k3 := k2.step hb
     have hl : ends.length = k.length := by rw [hk]; exact hel.out
     have bE := k3.bE
     have hC := (Kd.R_reads' k3.row).2.2
     rw [← hel.out] at bE
     exact some1 k ends hl (by rw [hk]; exact hnq.out) gE _ _ W' bE hC⟩)
    (fun k c hk hc => ⟨_, _, _, rfl, Tryd.func179, rfl, rfl, fun W' hb => by
     have k3 := k2.step hb
     have hdc := hdlq.out c hc
     refine some2 w.heap.size (w.heap.size + 1) T tp (s : Int) accs rows wd hclq.out hnq.out k hk c (dg c) (by rw [hdc]; exact hTq.out) (by omega) (by omega) (hd3 c hc) (by omega) (col c) (hcol c hc) (fun W => by rw [hdc]; exact hdig W c hc) W' ⟨?_⟩ k3.bT
     refine ⟨AA, ca, AN, cn, ?_, ?_, ?_, ?_, ?_⟩
     ·rw [hAcc.out, List.length_map]; exact k3.bM
     ·rw [hAcc.out]; exact hHA.out _ k3.bel
     ·rw [List.length_map]; exact Kd.C_below hN k3.bel
     ·rw [hAcc.out]; exact hca
     ·rw [List.length_map]; exact hcn⟩)
    f R (by rw [← hSTq.out]; exact hRq.out)
   with_reducible refine q.mono ?_
   clear q
   rintro e wl ⟨hbl, hG⟩
   cases R with
   | none =>
    obtain rfl := hG
    refine ⟨_, rfl, ?_⟩
    have k5 := k2.step hbl
    refine hK.out _ _ (hSS _ k5) (fun hHeld => ?_)
    clear hK K
    refine norm_ (a' := ?_) ?_ ?_
    rotate_left
    ·show Act.put _ (some 83) _ = _
     simp only [Act.put, Za, Zb, Zc, i64_w, i32_w]
     rfl
    refine pure_ (i := 8) (N := some 84) (v := ?_) (a' := ?_) (zb 12 511) rfl rfl (by kernel_rfl) (fun _ _ _ h => h) (Or.inl ⟨by rfl, ?_⟩) ?_ ?_
    rotate_left
    ·intro w'
     go_simp
     with_reducible rfl
    rotate_left
    ·simp only [Act.put, Za, Zb, Zc, i64_w, i32_w]
     rfl
    refine pure_ (i := 9) (N := some 85) (v := ?_) (a' := ?_) (zb 12 1023) rfl rfl (by kernel_rfl) (fun _ _ _ h => h) (Or.inl ⟨by rfl, ?_⟩) ?_ ?_
    rotate_left
    ·intro w'
     go_simp
     with_reducible rfl
    rotate_left
    ·simp only [Act.put, Za, Zb, Zc, i64_w, i32_w]
     rfl
    have e0 : wl.cell? ⟨w.heap.size + 2, 0, none⟩ = some (.int .i64 0) := (blk_cell k5.bR 0).trans rfl
    have f0 : wl.frozen? ⟨w.heap.size + 2, 0, none⟩ = false := blk_frozen k5.bR 0
    have e1 : wl.cell? ⟨w.heap.size + 2, 1, none⟩ = some (.int .i64 0) := (blk_cell k5.bR 1).trans rfl
    have f1 : wl.frozen? ⟨w.heap.size + 2, 1, none⟩ = false := blk_frozen k5.bR 1
    have e2 : wl.cell? ⟨w.heap.size + 2, 2, none⟩ = some (.slice none 0 0) := (blk_cell k5.bR 2).trans rfl
    have f2 : wl.frozen? ⟨w.heap.size + 2, 2, none⟩ = false := blk_frozen k5.bR 2
    have e3 : wl.cell? ⟨w.heap.size + 2, 3, none⟩ = some (.slice none 0 0) := (blk_cell k5.bR 3).trans rfl
    have f3 : wl.frozen? ⟨w.heap.size + 2, 3, none⟩ = false := blk_frozen k5.bR 3
    refine last_ (i := 10) (N := none) (zb 12 2047) rfl rfl (by kernel_rfl) (by decide) (fun K hK => ?_)
    refine skip_ (w1 := (((wl.setCell ⟨w.heap.size + 2, 0, none⟩ (.int .i64 0)).setCell ⟨w.heap.size + 2, 1, none⟩ (.int .i64 0)).setCell ⟨w.heap.size + 2, 2, none⟩ (.slice none 0 0)).setCell ⟨w.heap.size + 2, 3, none⟩ (.slice none 0 0)) (by rfl) rfl (by first | (go_simp; done) | (go_simp; rfl)) ?_
    refine hK.out _ _ ?_
    clear hK K
    refine pure_ (i := 11) (N := some 5) (v := ?_) (a' := ?_) (zb 12 4095) rfl rfl (by kernel_rfl) (fun _ _ _ h => h) (Or.inl ⟨by rfl, ?_⟩) ?_ ?_
    rotate_left
    ·intro w'
     go_simp
     with_reducible rfl
    rotate_left
    ·simp only [Act.put, Za, Zb, Zc, i64_w, i32_w]
     rfl
    refine done_ (by kernel_rfl) ?_
    have b0 := k5.bR
    have hB0 := k5.bel
    clear e0 e1 e2 e3 f0 f1 f2 f3
    have b1 := blk_put b0 0 (.int .i64 0) rfl
    have b2 := blk_put b1 1 (.int .i64 0) rfl
    have b3 := blk_put b2 2 (.slice none 0 0) rfl
    have b4 := blk_put b3 3 (.slice none 0 0) rfl
    go_wp2_with fail
    refine bodyPost_ret (results_ct rfl _ _ (w.heap.size + 2) 77 #[.int .i64 0, .int .i64 0, .slice none 0 0, .slice none 0 0] (0, 0) _ rfl b4 Tryd.underlying77 rfl (by kernel_rfl)) rfl ⟨?_, rfl⟩
    ·exact (((hB0.setCell (by simp) _).setCell (by simp) _).setCell (by simp) _).setCell (by simp) _
   | some x =>
    obtain ⟨l, rws⟩ := x
    obtain ⟨vA, vN, rfl, rA, rN⟩ := hG
    obtain ⟨A5, c5, e5⟩ := Kd.R_slice rA
    obtain ⟨A6, c6, e6⟩ := Kd.R_slice rN
    rw [List.length_map] at e5 e6
    subst e5 e6
    refine ⟨_, rfl, ?_⟩
    have k5 := k2.step hbl
    refine hK.out _ _ (hSS _ k5) (fun hHeld => ?_)
    clear hK K
    refine norm_ (a' := ?_) ?_ ?_
    rotate_left
    ·show Act.put _ (some 83) _ = _
     simp only [Act.put, Za, Zb, Zc, i64_w, i32_w]
     rfl
    refine pure_ (i := 8) (N := some 84) (v := ?_) (a' := ?_) (zb 12 511) rfl rfl (by kernel_rfl) (fun _ _ _ h => h) (Or.inl ⟨by rfl, ?_⟩) ?_ ?_
    rotate_left
    ·intro w'
     go_simp
     with_reducible rfl
    rotate_left
    ·simp only [Act.put, Za, Zb, Zc, i64_w, i32_w]
     rfl
    refine pure_ (i := 9) (N := some 85) (v := ?_) (a' := ?_) (zb 12 1023) rfl rfl (by kernel_rfl) (fun _ _ _ h => h) (Or.inl ⟨by rfl, ?_⟩) ?_ ?_
    rotate_left
    ·intro w'
     go_simp
     with_reducible rfl
    rotate_left
    ·simp only [Act.put, Za, Zb, Zc, i64_w, i32_w]
     rfl
    have e0 : wl.cell? ⟨w.heap.size + 2, 0, none⟩ = some (.int .i64 0) := (blk_cell k5.bR 0).trans rfl
    have f0 : wl.frozen? ⟨w.heap.size + 2, 0, none⟩ = false := blk_frozen k5.bR 0
    have e1 : wl.cell? ⟨w.heap.size + 2, 1, none⟩ = some (.int .i64 0) := (blk_cell k5.bR 1).trans rfl
    have f1 : wl.frozen? ⟨w.heap.size + 2, 1, none⟩ = false := blk_frozen k5.bR 1
    have e2 : wl.cell? ⟨w.heap.size + 2, 2, none⟩ = some (.slice none 0 0) := (blk_cell k5.bR 2).trans rfl
    have f2 : wl.frozen? ⟨w.heap.size + 2, 2, none⟩ = false := blk_frozen k5.bR 2
    have e3 : wl.cell? ⟨w.heap.size + 2, 3, none⟩ = some (.slice none 0 0) := (blk_cell k5.bR 3).trans rfl
    have f3 : wl.frozen? ⟨w.heap.size + 2, 3, none⟩ = false := blk_frozen k5.bR 3
    refine last_ (i := 10) (N := none) (zb 12 2047) rfl rfl (by kernel_rfl) (by decide) (fun K hK => ?_)
    refine skip_ (w1 := (((wl.setCell ⟨w.heap.size + 2, 0, none⟩ (.int .i64 (t : Int))).setCell ⟨w.heap.size + 2, 1, none⟩ (.int .i64 0)).setCell ⟨w.heap.size + 2, 2, none⟩ (.slice A5 l.length c5)).setCell ⟨w.heap.size + 2, 3, none⟩ (.slice A6 rws.length c6)) (by rfl) rfl (by first | (go_simp; done) | (go_simp; rfl)) ?_
    refine hK.out _ _ ?_
    clear hK K
    refine pure_ (i := 11) (N := some 5) (v := ?_) (a' := ?_) (zb 12 4095) rfl rfl (by kernel_rfl) (fun _ _ _ h => h) (Or.inl ⟨by rfl, ?_⟩) ?_ ?_
    rotate_left
    ·intro w'
     go_simp
     with_reducible rfl
    rotate_left
    ·simp only [Act.put, Za, Zb, Zc, i64_w, i32_w]
     rfl
    refine done_ (by kernel_rfl) ?_
    have b0 := k5.bR
    have hB0 := k5.bel
    clear e0 e1 e2 e3 f0 f1 f2 f3
    have b1 := blk_put b0 0 (.int .i64 (t : Int)) rfl
    have b2 := blk_put b1 1 (.int .i64 0) rfl
    have b3 := blk_put b2 2 (.slice A5 l.length c5) rfl
    have b4 := blk_put b3 3 (.slice A6 rws.length c6) rfl
    go_wp2_with fail
    refine bodyPost_ret (results_ct rfl _ _ (w.heap.size + 2) 77 #[.int .i64 (t : Int), .int .i64 0, .slice A5 l.length c5, .slice A6 rws.length c6] (0, 0) _ rfl b4 Tryd.underlying77 rfl (by kernel_rfl)) rfl ⟨?_, _, _, rfl, ?_, ?_⟩
    ·exact (((hB0.setCell (by simp) _).setCell (by simp) _).setCell (by simp) _).setCell (by simp) _
    ·have ha : ∀ x ∈ l, (fun set => (List.range set.length).any (fun q => ends.getD q false && set.getD q false)) x = accS rows accs p0 p1 x := fun x hx => acc_is hfix.out (meet_lens (by rw [hSTq.out]; exact hSTl) hRq.out x hx)
     rw [← List.map_congr_left ha]
     have r0 := Kd.R_lower rA (Below.size k2.bel)
     exact Kd.R_set (Kd.R_set (Kd.R_set (Kd.R_set r0 b0 (by decide) 0 _) b1 (by decide) 1 _) b2 (by decide) 2 _) b3 (by decide) 3 _
    ·have r0 := Kd.R_lower rN (Below.size k2.bel)
     exact Kd.R_set (Kd.R_set (Kd.R_set (Kd.R_set r0 b0 (by decide) 0 _) b1 (by decide) 1 _) b2 (by decide) 2 _) b3 (by decide) 3 _
end Go.Proofs.YtbamnonamdpooaaDoor.So
namespace Go.Proofs.YtbamnonamdpooaaDoor.PL1
open Go.RowKit Go.Proofs.YtbamnonamdpooaaDoorW.PrintWords Go.Proofs.YtbamnonamdpooaaDoorW.PrintLast Go.Proofs.YtbamnonamdpooaaDoorW.PrintMore
attribute [local go_sem] max2_int min2_int max_two min_two max_three min_three max_four min_four   -- for this text's walks alone
set_option linter.unusedVariables false
set_option linter.unusedSimpArgs false
def errW : Option Int → Value
 | none => .nilIface
 | some c => .iface 0 (.int .i64 c)
theorem errW_none : errW none = .nilIface := rfl
theorem errW_some (c : Int) : errW (some c) = .iface 0 (.int .i64 c) := rfl
theorem info2 : (Tryd.prog.info? 2).map (fun i => (i.zero, i.size, i.bytes)) = some (some (.int .i64 0), 1, 8) := by kernel_rfl
end Go.Proofs.YtbamnonamdpooaaDoor.PL1
namespace Go.Proofs.YtbamnonamdpooaaDoor.PL1
open Go.RowKit Go.Proofs.YtbamnonamdpooaaDoorW.PrintWords Go.Proofs.YtbamnonamdpooaaDoorW.PrintLast Go.Proofs.YtbamnonamdpooaaDoorW.PrintMore
attribute [local go_sem] max2_int min2_int max_two min_two max_three min_three max_four min_four   -- for this text's walks alone
set_option linter.unusedVariables false
set_option linter.unusedSimpArgs false
/-! ### laws_toInt64S: function 112 -/
def laws_toInt64S.l0 : Nat → List Int → List Int → Int → Option (List Int)
 | 0, _, _, _ => none
 | k + 1, x0, x3, x4 => if x4 < (x0.length : Int) then (if 0 ≤ x4 then (if x4 < (x3.length : Int) then (laws_toInt64S.l0 k x0 (x3.set (x4 : Int).toNat (rd x0 x4)) (wrap64 (x4 + 1))) else (none)) else (none)) else (some x3)
def laws_toInt64S.f (k : Nat) (l0 : List Int) : Option (List Int) := if 0 ≤ (l0.length : Int) then (if ((l0.length : Int) : Int).toNat ≤ 35184372088832 then (laws_toInt64S.l0 k l0 (List.replicate ((l0.length : Int) : Int).toNat 0) 0) else (none)) else (none)
theorem laws_toInt64S.mono_l : ∀ k, (∀ y0 y1 y2, LeO (laws_toInt64S.l0 k y0 y1 y2) (laws_toInt64S.l0 (k + 1) y0 y1 y2))
 | 0 => fun _ _ _ r h => by simp [laws_toInt64S.l0] at h
 | k + 1 => by
  have ih0 := laws_toInt64S.mono_l k
  ·intro y0 y1 y2
   unfold laws_toInt64S.l0
   repeat' first
   | (with_reducible exact ih0 _ _ _)
   | (with_reducible exact LeO.refl _)
   | (with_reducible exact LeO.none _)
   | (with_reducible refine LeO.ite ?_ ?_)
   | (with_reducible refine LeO.bind ?_ (fun _ => ?_))
   | exact ih0 _ _ _
   | exact LeO.none _
   | refine LeO.ite ?_ ?_
   | refine LeO.bind ?_ (fun _ => ?_)
theorem laws_toInt64S.mono : ∀ a0 k, LeO (laws_toInt64S.f k a0) (laws_toInt64S.f (k + 1) a0) := by
 intro a0 k
 have ih0 := laws_toInt64S.mono_l k
 unfold laws_toInt64S.f
 repeat' first
   | (with_reducible exact ih0 _ _ _)
   | (with_reducible exact LeO.refl _)
   | (with_reducible exact LeO.none _)
   | (with_reducible refine LeO.ite ?_ ?_)
   | (with_reducible refine LeO.bind ?_ (fun _ => ?_))
   | exact ih0 _ _ _
   | exact LeO.none _
   | refine LeO.ite ?_ ?_
   | refine LeO.bind ?_ (fun _ => ?_)
set_option maxHeartbeats 8000000 in
set_option maxRecDepth 100000 in
theorem laws_toInt64S.calls (k : Nat) (A0 : Option Addr) (c0 : Nat) (l0 : List Int) (r : List Int) (w : World) (hr0 : Kd.C (Kd.int .i64) w A0 l0.length l0) (hc0 : l0.length ≤ c0) (h : laws_toInt64S.f k l0 = some r) :
  Calls Tryd.prog 112 #[.slice A0 l0.length c0] w fun e w' => ∃ v0_ : Value, e = .returned (v0_) ∧ Kd.R (Kd.int .i64) 2 w' w.heap.size (fun _ => True) v0_ r ∧ Below w.heap.size w w' := by
 have HR0 := Aside0.mk hr0
 have HC0 := Aside0.mk hc0
 clear hr0 hc0
 have HB := Aside0.mk (Below.refl w.heap.size w)
 have H : (if 0 ≤ (l0.length : Int) then (if ((l0.length : Int) : Int).toNat ≤ 35184372088832 then (laws_toInt64S.l0 k l0 (List.replicate ((l0.length : Int) : Int).toNat 0) 0) else (none)) else (none)) = some r := h
 clear h
 by_cases c2 : 0 ≤ (l0.length : Int)
 ·rw [if_pos c2] at H
  have c2b0 := eq_true c2
  have c2b1 : decide (0 ≤ (l0.length : Int)) = true := decide_eq_true c2
  clear c2
  by_cases c3 : ((l0.length : Int) : Int).toNat ≤ 35184372088832
  ·rw [if_pos c3] at H
   have c3b0 := eq_true c3
   have c3b1 : decide (((l0.length : Int) : Int).toNat ≤ 35184372088832) = true := decide_eq_true c3
   clear c3
   obtain ⟨y101, hy101⟩ : ∃ y_ : List Int, y_ = (List.replicate ((l0.length : Int) : Int).toNat 0) := ⟨_, rfl⟩
   replace H : (laws_toInt64S.l0 k l0 y101 0) = some r := by first | (rw [hy101]; with_reducible exact H) | (have H2_ := (Option.bind_some _ _).symm.trans H; rw [hy101]; with_reducible exact H2_) | (have H2_ := (Option.bind_some _ _).symm.trans H; with_reducible exact H2_) | with_reducible exact H | (rw [hy101]; exact H) | exact H
   have Ny101 := Aside0.mk hy101
   clear hy101
   have H' := Aside0.mk H
   clear H
   go_enter Tryd.func112, Tryd.ntmps112
   go_wp2_with (first | ((with_reducible refine gate_dst (N := 7) rfl ?_); refine Kd.R_make (Kd.int .i64) _ 2 rfl (N := 7) rfl 86 _ _ rfl (l0.length : Int) rfl rfl Tryd.underlying86 (.int .i64 0) 8 info2 rfl (by decide) (by omega) 0 (ok := fun _ => True) (okp := fun _ => True) rfl (fun _ hk => hk) trivial (of_decide_eq_true (by first | (with_reducible assumption) | assumption)) (Nat.le_trans (Nat.mul_le_mul_right _ (of_decide_eq_true (by first | (with_reducible assumption) | assumption) : (l0.length : Int).toNat ≤ 35184372088832)) (by omega)) (Below.refl _ _) (Nat.le_refl _) ?_; intro v102 w4 ho5 hb hg_ hnew_; clear hg_ hnew_; (first | rw [← Ny101.out] at ho5 | (simp only [Int.reduceToNat] at ho5; rw [← Ny101.out] at ho5)); have n0_ := Aside0.mk (Kd.R_lower ho5 (below_size (by repeat (first | (with_reducible first | exact HB.out | apply below_alloc | apply pw_below_drewN | apply below_drew1) | exact HB.out)))); have n1_ := Aside0.mk (below_step (by repeat (first | (with_reducible first | exact HB.out | apply below_alloc | apply pw_below_drewN | apply below_drew1) | exact HB.out)) hb); clear HB; have HO103 := n0_; have HB := n1_; clear n0_ n1_; clear hb ho5))
   go_loopg [4] k (fun kq v4 w' => ∃ (x3_1 : List Int) (x4_1 : Int), v4 = .int .i64 x4_1 ∧ Aside0 (laws_toInt64S.l0 kq l0 x3_1 x4_1 = some r) ∧ Aside0 (kq ≤ k) ∧ Aside0 (Kd.R (Kd.int .i64) 2 w' w.heap.size (fun _ => True) v102 x3_1) ∧ Aside0 (Below w.heap.size w w'))
   case atStart => exact ⟨(y101), (0), (by first | rfl | (simp; done) | (simp [*]; done) | (simp [wrap64]; done)), H', ⟨Nat.le_refl _⟩, ⟨by (with_reducible repeat (first | apply Kd.R_alloc | apply Kd.R_drewN | apply Kd.R_drew)); exact HO103.out⟩, ⟨by repeat (first | (with_reducible first | exact HB.out | apply below_alloc | apply pw_below_drewN | apply below_drew1) | exact HB.out)⟩⟩
   case round =>
    clear H'
    try clear c1
    try clear c2
    try clear c2b0
    try clear c2b1
    try clear p2
    try clear c3
    try clear c3b0
    try clear c3b1
    obtain ⟨x3_1, x4_1, rfl, HA, HK1, HO_3, HB⟩ := hrel
    cases gk with
    | zero => exact absurd HA.out (by simp [laws_toInt64S.l0])
    | succ k1 =>
     have H := HA.out
     clear HA
     simp only [laws_toInt64S.l0] at H
     by_cases c6 : x4_1 < (l0.length : Int)
     ·rw [if_pos c6] at H
      have c6b0 : decide (x4_1 < (l0.length : Int)) = true := decide_eq_true c6
      clear c6
      by_cases c7 : 0 ≤ x4_1
      ·rw [if_pos c7] at H
       have c7b0 : decide (0 ≤ x4_1) = true := decide_eq_true c7
       clear c7
       by_cases c8 : x4_1 < (x3_1.length : Int)
       ·rw [if_pos c8] at H
        have c8b0 : decide (x4_1 < (x3_1.length : Int)) = true := decide_eq_true c8
        clear c8
        obtain ⟨y105, hy105⟩ : ∃ y_ : List Int, y_ = (x3_1.set (x4_1 : Int).toNat (rd l0 x4_1)) := ⟨_, rfl⟩
        replace H : (laws_toInt64S.l0 k1 l0 y105 (wrap64 (x4_1 + 1))) = some r := by first | (rw [hy105]; with_reducible exact H) | (have H2_ := (Option.bind_some _ _).symm.trans H; rw [hy105]; with_reducible exact H2_) | (have H2_ := (Option.bind_some _ _).symm.trans H; with_reducible exact H2_) | with_reducible exact H | (rw [hy105]; exact H) | exact H
        have Ny105 := Aside0.mk hy105
        clear hy105
        have H' := Aside0.mk H
        clear H
        have p104 : 0 ≤ (x4_1 : Int) := of_decide_eq_true (by first | (with_reducible assumption) | assumption)
        have q104 : x4_1 < (l0.length : Int) := of_decide_eq_true (by first | (with_reducible assumption) | assumption)
        obtain ⟨ad104, e104, hx104_0⟩ := Kd.at_int HR0.out x4_1 p104 q104
        cases e104
        replace hx104_0 := (HB.out.cell (World.block_lt_of_cell? w _ hx104_0)).trans hx104_0
        replace p104 := eq_true p104
        replace q104 := eq_true q104
        have p9 : 0 ≤ (x4_1 : Int) := of_decide_eq_true (by first | (with_reducible assumption) | assumption)
        have q9 : (x4_1 : Int) < ((x3_1.length : Int) : Int) := of_decide_eq_true (by first | (with_reducible assumption) | assumption)
        obtain ⟨go9, co9, eo9, gb9, gl9, cl9, HG9⟩ := Kd.R_form HO_3.out (by omega)
        (first | cases eo9 | (injection eo9 with ea_ en_ ec_; (first | subst ea_ | (injection ea_ with ea_; subst ea_)); subst ec_; clear en_))
        have GB9 := Aside0.mk gb9
        have GG9 := Aside0.mk HG9
        clear gb9 gl9 HG9
        obtain ⟨hx9_0, hf9_0⟩ := Kd.R_celln 0 HO_3.out (x4_1 : Int) p9 q9
        replace p9 := eq_true p9
        replace q9 := eq_true q9
        have HP10 := Kd.R_putg HO_3.out (x4_1 : Int) (rd l0 x4_1)
        go_wp2_with (first | ((with_reducible refine gate_store (t := 2) (p := 20) rfl ?_); refine store_event (t := 2) (p := 20) (v := ?vo_w11) (w1 := (wr.setCell ⟨go9, (x4_1 : Int).toNat, none⟩ (.int .i64 (rd l0 x4_1)))) ?hg ?ho ?hn ?hr ?_; (case ho => rfl); (case hg => rfl); (case hn => rfl); (case hr => first | (go_simp; done) | (go_simp; rfl)); intro w11 hw; have hg : wr.grownBy w11 (some go9) := (by rw [hw]; exact HP10.2); have hp_ : Kd.R (Kd.int .i64) 2 w11 w.heap.size (fun _ => True) (.slice (some ⟨go9, 0, none⟩) x3_1.length co9) y105 := (by rw [hw, Ny105.out]; exact HP10.1); clear HP10; have n0_ := Aside0.mk (hp_); have n1_ := Aside0.mk ((by rw [hw]; exact below_set (HB.out) GB9.out : Below w.heap.size w w11)); clear HO_3; clear HB; have HO_3 := n0_; have HB := n1_; clear n0_ n1_; clear hg hw hp_))
        go_roundg k1
        case measure => have := HK1.out; omega
        case rel => exact ⟨(y105), (wrap64 (x4_1 + 1)), (by first | rfl | (simp; done) | (simp [*]; done) | (simp [wrap64]; done)), H', ⟨by have := HK1.out; omega⟩, ⟨by (with_reducible repeat (first | apply Kd.R_alloc | apply Kd.R_drewN | apply Kd.R_drew)); exact HO_3.out⟩, ⟨by repeat (first | (with_reducible first | exact HB.out | apply below_alloc | apply pw_below_drewN | apply below_drew1) | exact HB.out)⟩⟩
       ·rw [if_neg c8] at H
        exact absurd H (by simp)
      ·rw [if_neg c7] at H
       exact absurd H (by simp)
     ·rw [if_neg c6] at H
      have c6b0 : decide (x4_1 < (l0.length : Int)) = false := decide_eq_false c6
      clear c6
      obtain rfl := Option.some.inj H
      simp only [Option.some.injEq, Prod.mk.injEq] at H
      obtain ⟨rfl⟩ := H
      go_wp2
      go_ret
      exact ⟨_, by first | rfl | (simp [errW_none, errW_some] <;> rfl) | (simp [*, errW_none, errW_some] <;> rfl), by (with_reducible repeat (first | apply Kd.R_alloc | apply Kd.R_drewN | apply Kd.R_drew)); exact HO_3.out, by repeat (first | (with_reducible first | exact HB.out | apply below_alloc | apply pw_below_drewN | apply below_drew1) | exact HB.out)⟩
  ·rw [if_neg c3] at H
   exact absurd H (by simp)
 ·rw [if_neg c2] at H
  exact absurd H (by simp)
/-! ### laws_markInt64S: function 129 -/
def laws_markInt64S.l0 : Nat → List Int → Int → Int → Option (Int × List Int)
 | 0, _, _, _ => none
 | k + 1, x0, x1, x5 => if x5 < (x0.length : Int) then (if 0 ≤ x5 then (laws_markInt64S.l0 k (x0.set (x5 : Int).toNat x1) (wrap64 (x1 + 1)) (wrap64 (x5 + 1))) else (none)) else (some (x1, x0))
def laws_markInt64S.f (k : Nat) (l0 : List Int) (a1 : Int) : Option (Int × List Int) := laws_markInt64S.l0 k l0 a1 0
theorem laws_markInt64S.mono_l : ∀ k, (∀ y0 y1 y2, LeO (laws_markInt64S.l0 k y0 y1 y2) (laws_markInt64S.l0 (k + 1) y0 y1 y2))
 | 0 => fun _ _ _ r h => by simp [laws_markInt64S.l0] at h
 | k + 1 => by
  have ih0 := laws_markInt64S.mono_l k
  ·intro y0 y1 y2
   unfold laws_markInt64S.l0
   repeat' first
   | (with_reducible exact ih0 _ _ _)
   | (with_reducible exact LeO.refl _)
   | (with_reducible exact LeO.none _)
   | (with_reducible refine LeO.ite ?_ ?_)
   | (with_reducible refine LeO.bind ?_ (fun _ => ?_))
   | exact ih0 _ _ _
   | exact LeO.none _
   | refine LeO.ite ?_ ?_
   | refine LeO.bind ?_ (fun _ => ?_)
theorem laws_markInt64S.mono : ∀ a0 a1 k, LeO (laws_markInt64S.f k a0 a1) (laws_markInt64S.f (k + 1) a0 a1) := by
 intro a0 a1 k
 have ih0 := laws_markInt64S.mono_l k
 unfold laws_markInt64S.f
 repeat' first
   | (with_reducible exact ih0 _ _ _)
   | (with_reducible exact LeO.refl _)
   | (with_reducible exact LeO.none _)
   | (with_reducible refine LeO.ite ?_ ?_)
   | (with_reducible refine LeO.bind ?_ (fun _ => ?_))
   | exact ih0 _ _ _
   | exact LeO.none _
   | refine LeO.ite ?_ ?_
   | refine LeO.bind ?_ (fun _ => ?_)
set_option maxHeartbeats 8000000 in
set_option maxRecDepth 100000 in
theorem laws_markInt64S.calls (k : Nat) (P0_ : Nat → Prop) (u9000_ : Value) (l0 : List Int) (a1 : Int) (r1 : Int) (r2 : List Int) (w0 w : World) (hB : Below w0.heap.size w0 w) (ho0 : Kd.R (Kd.int .i64) 2 w w0.heap.size P0_ u9000_ l0) (h : laws_markInt64S.f k l0 a1 = some (r1, r2)) :
  Calls Tryd.prog 129 #[u9000_, .int .i64 a1] w fun e w' => e = .returned (.int .i64 r1) ∧ Kd.R (Kd.int .i64) 2 w' w0.heap.size (fun k_ => (P0_ k_ ∨ w.heap.size ≤ k_)) u9000_ r2 ∧ Below w0.heap.size w0 w' ∧ Kept w w' (fun k_ => P0_ k_) := by
 have HO0 := Aside0.mk (show Kd.R (Kd.int .i64) 2 w w0.heap.size (fun k_ => (P0_ k_ ∨ w.heap.size ≤ k_)) u9000_ l0 from Kd.R_mono ho0 (fun k_ hk => (.inl hk)))
 have HK := Aside0.mk (Kept.refl w (fun k_ => P0_ k_))
 have HW0 := Aside0.mk hB.size
 have HB := Aside0.mk hB
 clear hB
 have H : (laws_markInt64S.l0 k l0 a1 0) = some (r1, r2) := h
 clear h
 have H' := Aside0.mk H
 clear H
 go_enter Tryd.func129, Tryd.ntmps129
 go_wp2
 go_loopg [1, 5] k (fun kq v1 v5 w' => ∃ (x0_1 : List Int) (x1_1 : Int) (x5_1 : Int), v1 = .int .i64 x1_1 ∧ v5 = .int .i64 x5_1 ∧ Aside0 (laws_markInt64S.l0 kq x0_1 x1_1 x5_1 = some (r1, r2)) ∧ Aside0 (kq ≤ k) ∧ Aside0 (Kd.R (Kd.int .i64) 2 w' w0.heap.size (fun k_ => (P0_ k_ ∨ w.heap.size ≤ k_)) u9000_ x0_1) ∧ Aside0 (Kept w w' (fun k_ => P0_ k_)) ∧ Aside0 (Below w0.heap.size w0 w'))
 case atStart => exact ⟨(l0), (a1), (0), (by first | rfl | (simp; done) | (simp [*]; done) | (simp [wrap64]; done)), (by first | rfl | (simp; done) | (simp [*]; done) | (simp [wrap64]; done)), H', ⟨Nat.le_refl _⟩, ⟨by (with_reducible repeat (first | apply Kd.R_alloc | apply Kd.R_drewN | apply Kd.R_drew)); exact HO0.out⟩, ⟨by repeat (first | (with_reducible first | exact HK.out | apply Kept.alloc | apply Kept.drewN | apply Kept.drew) | exact HK.out)⟩, ⟨by repeat (first | (with_reducible first | exact HB.out | apply below_alloc | apply pw_below_drewN | apply below_drew1) | exact HB.out)⟩⟩
 case round =>
  clear H'
  try clear c1
  try clear p2
  obtain ⟨x0_1, x1_1, x5_1, rfl, rfl, HA, HK1, HO_0, HK, HB⟩ := hrel
  cases gk with
  | zero => exact absurd HA.out (by simp [laws_markInt64S.l0])
  | succ k1 =>
   have H := HA.out
   clear HA
   simp only [laws_markInt64S.l0] at H
   by_cases c3 : x5_1 < (x0_1.length : Int)
   ·rw [if_pos c3] at H
    have c3b0 : decide (x5_1 < (x0_1.length : Int)) = true := decide_eq_true c3
    clear c3
    by_cases c4 : 0 ≤ x5_1
    ·rw [if_pos c4] at H
     have c4b0 : decide (0 ≤ x5_1) = true := decide_eq_true c4
     clear c4
     obtain ⟨y106, hy106⟩ : ∃ y_ : List Int, y_ = (x0_1.set (x5_1 : Int).toNat x1_1) := ⟨_, rfl⟩
     replace H : (laws_markInt64S.l0 k1 y106 (wrap64 (x1_1 + 1)) (wrap64 (x5_1 + 1))) = some (r1, r2) := by first | (rw [hy106]; with_reducible exact H) | (have H2_ := (Option.bind_some _ _).symm.trans H; rw [hy106]; with_reducible exact H2_) | (have H2_ := (Option.bind_some _ _).symm.trans H; with_reducible exact H2_) | with_reducible exact H | (rw [hy106]; exact H) | exact H
     have Ny106 := Aside0.mk hy106
     clear hy106
     have H' := Aside0.mk H
     clear H
     obtain ⟨Ao6, co6, eo6⟩ := Kd.R_slice HO_0.out
     subst eo6
     have p5 : 0 ≤ (x5_1 : Int) := of_decide_eq_true (by first | (with_reducible assumption) | assumption)
     have q5 : (x5_1 : Int) < ((x0_1.length : Int) : Int) := of_decide_eq_true (by first | (with_reducible assumption) | assumption)
     obtain ⟨go5, co5, eo5, gb5, gl5, cl5, HG5⟩ := Kd.R_form HO_0.out (by omega)
     (first | cases eo5 | (injection eo5 with ea_ en_ ec_; (first | subst ea_ | (injection ea_ with ea_; subst ea_)); subst ec_; clear en_))
     have GB5 := Aside0.mk gb5
     have GG5 := Aside0.mk HG5
     clear gb5 gl5 HG5
     have HMgo5 := Aside0.mk (show (P0_ go5 ∨ w.heap.size ≤ go5) from (HO_0.out.1 _ rfl))
     obtain ⟨hx5_0, hf5_0⟩ := Kd.R_celln 0 HO_0.out (x5_1 : Int) p5 q5
     replace p5 := eq_true p5
     replace q5 := eq_true q5
     have HP7 := Kd.R_putg HO_0.out (x5_1 : Int) x1_1
     go_wp2_with (first | ((with_reducible refine gate_store (t := 2) (p := 15) rfl ?_); refine store_event (t := 2) (p := 15) (v := ?vo_w8) (w1 := (wr.setCell ⟨go5, (x5_1 : Int).toNat, none⟩ (.int .i64 x1_1))) ?hg ?ho ?hn ?hr ?_; (case ho => rfl); (case hg => rfl); (case hn => rfl); (case hr => first | (go_simp; done) | (go_simp; rfl)); intro w8 hw; have hg : wr.grownBy w8 (some go5) := (by rw [hw]; exact HP7.2); have hp_ : Kd.R (Kd.int .i64) 2 w8 w0.heap.size (fun k_ => (P0_ k_ ∨ w.heap.size ≤ k_)) (.slice (some ⟨go5, 0, none⟩) x0_1.length co6) y106 := (by rw [hw, Ny106.out]; exact HP7.1); clear HP7; have n0_ := Aside0.mk (hp_); have n1_ := Aside0.mk ((by rw [hw]; exact below_set (HB.out) GB5.out : Below w0.heap.size w0 w8)); have n2_ := Aside0.mk (Kept.of_grown (S := (fun k_ => P0_ k_)) hg (by repeat (first | (with_reducible first | exact HK.out | apply Kept.alloc | apply Kept.drewN | apply Kept.drew) | exact HK.out)) (fun k_ e_ => (HO_0.out.1 k_ e_))); clear HO_0; clear HB; clear HK; have HO_0 := n0_; have HB := n1_; have HK := n2_; clear n0_ n1_ n2_; clear hg hw hp_))
     go_roundg k1
     case measure => have := HK1.out; omega
     case rel => exact ⟨(y106), (wrap64 (x1_1 + 1)), (wrap64 (x5_1 + 1)), (by first | rfl | (simp; done) | (simp [*]; done) | (simp [wrap64]; done)), (by first | rfl | (simp; done) | (simp [*]; done) | (simp [wrap64]; done)), H', ⟨by have := HK1.out; omega⟩, ⟨by (with_reducible repeat (first | apply Kd.R_alloc | apply Kd.R_drewN | apply Kd.R_drew)); exact HO_0.out⟩, ⟨by repeat (first | (with_reducible first | exact HK.out | apply Kept.alloc | apply Kept.drewN | apply Kept.drew) | exact HK.out)⟩, ⟨by repeat (first | (with_reducible first | exact HB.out | apply below_alloc | apply pw_below_drewN | apply below_drew1) | exact HB.out)⟩⟩
    ·rw [if_neg c4] at H
     exact absurd H (by simp)
   ·rw [if_neg c3] at H
    have c3b0 : decide (x5_1 < (x0_1.length : Int)) = false := decide_eq_false c3
    clear c3
    simp only [Option.some.injEq, Prod.mk.injEq] at H
    obtain ⟨rfl, rfl⟩ := H
    obtain ⟨Ao9, co9, eo9⟩ := Kd.R_slice HO_0.out
    subst eo9
    go_wp2
    go_ret
    exact ⟨by first | rfl | (simp [errW_none, errW_some] <;> rfl) | (simp [*, errW_none, errW_some] <;> rfl), by (with_reducible repeat (first | apply Kd.R_alloc | apply Kd.R_drewN | apply Kd.R_drew)); exact HO_0.out, by repeat (first | (with_reducible first | exact HB.out | apply below_alloc | apply pw_below_drewN | apply below_drew1) | exact HB.out), by repeat (first | (with_reducible first | exact HK.out | apply Kept.alloc | apply Kept.drewN | apply Kept.drew) | exact HK.out)⟩
end Go.Proofs.YtbamnonamdpooaaDoor.PL1
namespace Go.Proofs.YtbamnonamdpooaaDoor.PL1
open Go.RowKit Go.Proofs.YtbamnonamdpooaaDoorW.PrintWords Go.Proofs.YtbamnonamdpooaaDoorW.PrintLast Go.Proofs.YtbamnonamdpooaaDoorW.PrintMore
attribute [local go_sem] max2_int min2_int max_two min_two max_three min_three max_four min_four   -- for this text's walks alone
set_option linter.unusedVariables false
set_option linter.unusedSimpArgs false
end Go.Proofs.YtbamnonamdpooaaDoor.PL1
namespace Go.Proofs.YtbamnonamdpooaaDoor.PT2
open Go.RowKit Go.Proofs.YtbamnonamdpooaaDoorW.PrintWords Go.Proofs.YtbamnonamdpooaaDoorW.PrintLast Go.Proofs.YtbamnonamdpooaaDoorW.PrintMore PB1 PL1
attribute [local go_sem] max2_int min2_int max_two min_two max_three min_three max_four min_four   -- for this text's walks alone
set_option linter.unusedVariables false
set_option linter.unusedSimpArgs false
def errW : Option Int → Value
 | none => .nilIface
 | some c => .iface 0 (.int .i64 c)
theorem errW_none : errW none = .nilIface := rfl
theorem errW_some (c : Int) : errW (some c) = .iface 0 (.int .i64 c) := rfl
end Go.Proofs.YtbamnonamdpooaaDoor.PT2
namespace Go.Proofs.YtbamnonamdpooaaDoor.PT2
open Go.RowKit Go.Proofs.YtbamnonamdpooaaDoorW.PrintWords Go.Proofs.YtbamnonamdpooaaDoorW.PrintLast Go.Proofs.YtbamnonamdpooaaDoorW.PrintMore PB1 PL1
attribute [local go_sem] max2_int min2_int max_two min_two max_three min_three max_four min_four   -- for this text's walks alone
set_option linter.unusedVariables false
set_option linter.unusedSimpArgs false
/-! ### spec_l00In: function 119 -/
def spec_l00In.f (a0 : Int) (a1 : Int) (a2 : Int) : Option (Bool) := if a0 ≥ a1 then (some (decide (a0 ≤ a2))) else (some false)
set_option maxHeartbeats 8000000 in
set_option maxRecDepth 100000 in
theorem spec_l00In.calls (a0 : Int) (a1 : Int) (a2 : Int) (r : Bool) (w : World) (h : spec_l00In.f a0 a1 a2 = some r) :
  Calls Tryd.prog 119 #[.int .i64 a0, .int .i64 a1, .int .i64 a2] w fun e w' => e = .returned (.bool r) ∧ Drawn0 w w' := by
 have H : (if a0 ≥ a1 then (some (decide (a0 ≤ a2))) else (some false)) = some r := h
 clear h
 by_cases c4 : a0 ≥ a1
 ·rw [if_pos c4] at H
  have c4b0 : decide (a1 ≤ a0) = true := decide_eq_true c4
  clear c4
  obtain rfl := Option.some.inj H
  simp only [Option.some.injEq, Prod.mk.injEq] at H
  obtain ⟨rfl⟩ := H
  go_enter Tryd.func119, Tryd.ntmps119
  go_wp2
  go_ret
  exact ⟨by first | rfl | (simp; done) | (simp [*]; done) | (simp [wrap64]; done), by repeat (first | exact Drawn0.refl _ | apply Drawn0.step)⟩
 ·rw [if_neg c4] at H
  have c4b0 : decide (a1 ≤ a0) = false := decide_eq_false c4
  clear c4
  obtain rfl := Option.some.inj H
  simp only [Option.some.injEq, Prod.mk.injEq] at H
  obtain ⟨rfl⟩ := H
  go_enter Tryd.func119, Tryd.ntmps119
  go_wp2
  go_ret
  exact ⟨by first | rfl | (simp; done) | (simp [*]; done) | (simp [wrap64]; done), by repeat (first | exact Drawn0.refl _ | apply Drawn0.step)⟩
/-! ### impl_within: function 123 -/
def impl_within.f (a0 : Int) (a1 : Int) (a2 : Int) : Option (Bool) := if a1 ≤ a0 then (some (decide (a0 ≤ a2))) else (some false)
set_option maxHeartbeats 8000000 in
set_option maxRecDepth 100000 in
theorem impl_within.calls (a0 : Int) (a1 : Int) (a2 : Int) (r : Bool) (w : World) (h : impl_within.f a0 a1 a2 = some r) :
  Calls Tryd.prog 123 #[.int .i64 a0, .int .i64 a1, .int .i64 a2] w fun e w' => e = .returned (.bool r) ∧ Drawn0 w w' := by
 have H : (if a1 ≤ a0 then (some (decide (a0 ≤ a2))) else (some false)) = some r := h
 clear h
 by_cases c4 : a1 ≤ a0
 ·rw [if_pos c4] at H
  have c4b0 : decide (a1 ≤ a0) = true := decide_eq_true c4
  clear c4
  obtain rfl := Option.some.inj H
  simp only [Option.some.injEq, Prod.mk.injEq] at H
  obtain ⟨rfl⟩ := H
  go_enter Tryd.func123, Tryd.ntmps123
  go_wp2
  go_ret
  exact ⟨by first | rfl | (simp; done) | (simp [*]; done) | (simp [wrap64]; done), by repeat (first | exact Drawn0.refl _ | apply Drawn0.step)⟩
 ·rw [if_neg c4] at H
  have c4b0 : decide (a1 ≤ a0) = false := decide_eq_false c4
  clear c4
  obtain rfl := Option.some.inj H
  simp only [Option.some.injEq, Prod.mk.injEq] at H
  obtain ⟨rfl⟩ := H
  go_enter Tryd.func123, Tryd.ntmps123
  go_wp2
  go_ret
  exact ⟨by first | rfl | (simp; done) | (simp [*]; done) | (simp [wrap64]; done), by repeat (first | exact Drawn0.refl _ | apply Drawn0.step)⟩
/-! ### impl_areTapes: function 146 -/
def impl_areTapes.f (a0 : Int) : Option (Bool) := (impl_within.f a0 1 3).bind fun t101 => (some t101)
set_option maxHeartbeats 8000000 in
set_option maxRecDepth 100000 in
theorem impl_areTapes.calls (a0 : Int) (r : Bool) (w : World) (h : impl_areTapes.f a0 = some r) :
  Calls Tryd.prog 146 #[.int .i64 a0] w fun e w' => e = .returned (.bool r) ∧ Drawn0 w w' := by
 have H : ((impl_within.f a0 1 3).bind fun t101 => (some t101)) = some r := h
 clear h
 replace H := Option.bind_eq_some_iff.mp H
 obtain ⟨t101, A20, H⟩ := H
 replace H : (some t101) = some r := H
 have A2 := Aside0.mk A20
 clear A20
 obtain rfl := Option.some.inj H
 simp only [Option.some.injEq, Prod.mk.injEq] at H
 obtain ⟨rfl⟩ := H
 go_enter Tryd.func146, Tryd.ntmps146
 go_wp2_with (first | ((with_reducible refine gate_callee (f := 123) rfl ?_); refine goesL_ (some 4) rfl rfl Tryd.func123 (by kernel_rfl) rfl #[.int .i64 a0, .int .i64 1, .int .i64 3] rfl (by (try simp only [List.map_toArray, List.map_cons, List.map_nil]); first | done | rfl | (simp only [List.length_drop, List.length_take]; rfl)) ?_; (with_reducible refine (impl_within.calls a0 1 3 t101 _ A2.out).mono ?_); rintro e w' ⟨rfl, ⟨nd, rfl⟩⟩; refine ⟨_, rfl, ?_⟩))
 go_ret
 exact ⟨by first | rfl | (simp; done) | (simp [*]; done) | (simp [wrap64]; done), by repeat (first | exact Drawn0.refl _ | apply Drawn0.step)⟩
end Go.Proofs.YtbamnonamdpooaaDoor.PT2
namespace Go.Proofs.YtbamnonamdpooaaDoor.PT2
open Go.RowKit Go.Proofs.YtbamnonamdpooaaDoorW.PrintWords Go.Proofs.YtbamnonamdpooaaDoorW.PrintLast Go.Proofs.YtbamnonamdpooaaDoorW.PrintMore PB1 PL1
attribute [local go_sem] max2_int min2_int max_two min_two max_three min_three max_four min_four   -- for this text's walks alone
set_option linter.unusedVariables false
set_option linter.unusedSimpArgs false
end Go.Proofs.YtbamnonamdpooaaDoor.PT2
namespace Go.Proofs.YtbamnonamdpooaaDoor.Lr
set_option linter.unusedVariables false
set_option linter.unusedSimpArgs false
open Go.RowKit Go.Proofs.YtbamnonamdpooaaDoorW.PrintWords Go.Proofs.YtbamnonamdpooaaDoorW.PrintLast Go.Proofs.YtbamnonamdpooaaDoorW.PrintMore Kp PB1 PT2 Go.Proofs.YtbamnonamdpooaaDoor.Pure Tf
theorem at_cell {w1 w2 : World} (hb : Below w1.heap.size w1 w2) {p : Addr} {v : Value} (hc : w1.cell? p = some v) : w2.cell? p = some v := (hb.cell (World.block_lt_of_cell? w1 _ hc)).trans hc
/-! ### what is valid -/
def okX (n : Nat) (x : Int) : Bool := decide (0 ≤ x ∧ x < (n : Int))
def okW (t : Int) (n : Nat) (r : List Int) : Bool := decide (r.length = wdOf t.toNat) && r.all (okX n)
/-- The shape of a relation, of any size. -/
def okF (t s : Int) (a : List Bool) (b : List (List Int)) : Bool := decide (1 ≤ t ∧ t ≤ 3) && decide (1 ≤ a.length) && okX a.length s && decide (b.length = a.length) && b.all (okW t a.length)
theorem in_spec (x lo hi : Int) (W : World) : Calls Tryd.prog 119 #[.int .i64 x, .int .i64 lo, .int .i64 hi] W fun e W' => e = .returned (.bool (decide (lo ≤ x ∧ x ≤ hi))) ∧ Below W.heap.size W W' := by
 have h : spec_l00In.f x lo hi = some (decide (lo ≤ x ∧ x ≤ hi)) := by
  unfold spec_l00In.f
  by_cases h : x ≥ lo
  ·rw [if_pos h]; congr 1; rw [decide_eq_decide]; omega
  ·rw [if_neg h]; congr 1; symm; rw [decide_eq_false_iff_not]; omega
 exact (spec_l00In.calls x lo hi _ W h).mono (fun e W' hh => ⟨hh.1, hh.2.below⟩)
theorem in_impl (x lo hi : Int) (W : World) : Calls Tryd.prog 123 #[.int .i64 x, .int .i64 lo, .int .i64 hi] W fun e W' => e = .returned (.bool (decide (lo ≤ x ∧ x ≤ hi))) ∧ Below W.heap.size W W' := by
 have h : impl_within.f x lo hi = some (decide (lo ≤ x ∧ x ≤ hi)) := by
  unfold impl_within.f
  by_cases h : lo ≤ x
  ·rw [if_pos h]; congr 1; rw [decide_eq_decide]; omega
  ·rw [if_neg h]; congr 1; symm; rw [decide_eq_false_iff_not]; omega
 exact (impl_within.calls x lo hi _ W h).mono (fun e W' hh => ⟨hh.1, hh.2.below⟩)
theorem tapes_impl (x : Int) (W : World) : Calls Tryd.prog 146 #[.int .i64 x] W fun e W' => e = .returned (.bool (decide (1 ≤ x ∧ x ≤ 3))) ∧ Below W.heap.size W W' := by
 have h : impl_areTapes.f x = some (decide (1 ≤ x ∧ x ≤ 3)) := by
  unfold impl_areTapes.f impl_within.f
  by_cases h : 1 ≤ x
  ·rw [if_pos h, Option.bind_some]; congr 1; rw [decide_eq_decide]; omega
  ·rw [if_neg h, Option.bind_some]; congr 1; symm; rw [decide_eq_false_iff_not]; omega
 exact (impl_areTapes.calls x _ W h).mono (fun e W' hh => ⟨hh.1, hh.2.below⟩)
theorem wide_specQ {t : Int} (h0 : 0 ≤ t) (h : t ≤ 3) (W : World) : Calls Tryd.prog 60 #[.int .i64 t] W fun e W' => e = .returned (.int .i64 ((wdOf t.toNat : Nat) : Int)) ∧ Drawn0 W W' := by
 have e : ((t.toNat : Nat) : Int) = t := by omega
 exact spec_l01Wide.calls 10 t _ W (by have := (fin_wide t.toNat (by omega)).2; rwa [e] at this)
theorem wide_impl {t : Int} (h0 : 0 ≤ t) (h : t ≤ 3) (W : World) : Calls Tryd.prog 124 #[.int .i64 t] W fun e W' => e = .returned (.int .i64 ((wdOf t.toNat : Nat) : Int)) ∧ Below W.heap.size W W' := by
 have e : ((t.toNat : Nat) : Int) = t := by omega
 exact (impl_widthOf.calls 10 t _ W (by have := (fin_wide t.toNat (by omega)).1; rwa [e] at this)).mono (fun e W' hh => ⟨hh.1, hh.2.below⟩)
theorem in_x {n : Nat} (h1 : 1 ≤ n) (h2 : n ≤ 1048576) (x : Int) : decide (0 ≤ x ∧ x ≤ (n : Int) - 1) = okX n x := by
 unfold okX
 rw [decide_eq_decide]
 omega
theorem all_false {α : Type} {p : α → Bool} {l : List α} {x : α} (hm : x ∈ l) (h : p x = false) : l.all p = false := by
 rw [List.all_eq_false]
 exact ⟨x, hm, by rw [h]; simp⟩
theorem all_take {α : Type} {p : α → Bool} {l : List α} {i : Nat} (hi : i < l.length) (h : (l.take i).all p = true) (hx : p l[i] = true) : (l.take (i + 1)).all p = true := by
 rw [List.take_succ_eq_append_getElem hi, List.all_append, h, List.all_cons, hx]
 rfl
set_option maxHeartbeats 4000000 in
/-- The reference's test of a relation's shape. -/
theorem form (gp : Nat) (t s : Int) (A2 : Option Addr) (c2 : Nat) (a : List Bool) (A3 : Option Addr) (c3 : Nat) (b : List (List Int)) (w : World) (hP : w.heap[gp]? = some (.cells #[.int .i64 t, .int .i64 s, .slice A2 a.length c2, .slice A3 b.length c3] 29 (0, 0)))
  (h3 : Kd.C (Kd.slice 2 (Kd.int .i64)) w A3 b.length b) (l3 : b.length ≤ c3) (ha : a.length ≤ 1048576) (hb : b.length ≤ 1048576) (hs : ∀ r ∈ b, r.length ≤ 1048576) :
  Calls Tryd.prog 144 #[.pointer (some ⟨gp, 0, none⟩)] w fun e w' => e = .returned (.bool (okF t s a b)) ∧ Below w.heap.size w w' := by
 have hgp := blk_lt hP
 have m0 : w.cell? ⟨gp, 0, none⟩ = some (.int .i64 t) := (blk_cell hP 0).trans rfl
 have m1 : w.cell? ⟨gp, 1, none⟩ = some (.int .i64 s) := (blk_cell hP 1).trans rfl
 have m2 : w.cell? ⟨gp, 2, none⟩ = some (.slice A2 a.length c2) := (blk_cell hP 2).trans rfl
 have m3 : w.cell? ⟨gp, 3, none⟩ = some (.slice A3 b.length c3) := (blk_cell hP 3).trans rfl
 have hin := Aside0.mk in_spec
 by_cases ht : 1 ≤ t ∧ t ≤ 3
 ·have ht1 := Aside0.mk (decide_eq_true ht)
  by_cases h1 : 1 ≤ a.length
  ·have h1a : ((a.length : Int) < 1) = False := eq_false (by omega)
   have hwl : wrap64 ((a.length : Int) - 1) = (a.length : Int) - 1 := by unfold wrap64; omega
   cases hx : okX a.length s with
   | false =>
    have hr : okF t s a b = false := by unfold okF; rw [hx, Bool.and_false, Bool.false_and, Bool.false_and]
    rw [hr]
    go_enter Tryd.func144, Tryd.ntmps144
    go_wp2_with (first
     | (go_at_call 119; (with_reducible refine (hin.out t 1 3 _).mono ?_); go_loud (
       rintro e w1 ⟨he, hb1⟩
       rw [ht1.out] at he
       subst he
       have n1 := at_cell hb1 m1
       have n2 := at_cell hb1 m3))
     | (go_at_call 119; (with_reducible refine (hin.out s 0 ((a.length : Int) - 1) _).mono ?_); go_loud (
       rintro e w2 ⟨he, hb2⟩
       rw [in_x h1 ha, hx] at he
       subst he
       have hB2 := below_step hb1 hb2)))
    go_ret
    exact ⟨rfl, hB2⟩
   | true =>
    by_cases hl : b.length = a.length
    ·have hr : okF t s a b = b.all (okW t a.length) := by unfold okF; rw [decide_eq_true ht, decide_eq_true h1, hx, decide_eq_true hl]; simp
     rw [hr]
     have hl1 : ((b.length : Int) = (a.length : Int)) = True := eq_true (by omega)
     have hl2 : ((b.length : Int) == (a.length : Int)) = true := by simp <;> omega
     have hl3 : ((b.length : Int) != (a.length : Int)) = false := by simp <;> omega
     have hlq := Aside0.mk hl
     clear hl
     go_enter Tryd.func144, Tryd.ntmps144
     go_wp2_with (first
      | (go_at_call 119; (with_reducible refine (hin.out t 1 3 _).mono ?_); go_loud (
        rintro e w1 ⟨he, hb1⟩
        rw [ht1.out] at he
        subst he
        have n1 := at_cell hb1 m1
        have n2 := at_cell hb1 m3))
      | (go_at_call 119; (with_reducible refine (hin.out s 0 ((a.length : Int) - 1) _).mono ?_); go_loud (
        rintro e w2 ⟨he, hb2⟩
        rw [in_x h1 ha, hx] at he
        subst he
        have hB2 := below_step hb1 hb2
        have n3 := at_cell hB2 m3)))
     have hwl2 := Aside0.mk hwl
     have hx2 := Aside0.mk hx
     clear hl1 hl2 hl3 n1 n2 n3 hwl hb1 hb2 hx hr
     go_loopg [4] b.length (fun kq v4 W => ∃ i : Nat, v4 = .int .i64 (i : Int) ∧ Aside0 (kq = b.length - i) ∧ i ≤ b.length ∧ Aside0 ((b.take i).all (okW t a.length) = true) ∧ Aside0 (Below w.heap.size w W))
     case atStart => exact ⟨0, rfl, ⟨rfl⟩, Nat.zero_le _, ⟨rfl⟩, ⟨hB2⟩⟩
     case round =>
      clear hB2
      obtain ⟨wo, rfl⟩ : ∃ wo : World, wo = wr := ⟨_, rfl⟩
      obtain ⟨i, rfl, hk, hil, hall, hb⟩ := hrel
      have o0 := at_cell hb.out m0
      have o3 := at_cell hb.out m3
      by_cases hi : i < b.length
      ·obtain ⟨ad, rfl, A9, c9, e9, hl9, hC9⟩ := at_row h3 i hi
       have o9 := at_cell hb.out e9
       have hi1 : ((i : Int) < (b.length : Int)) = True := eq_true (by omega)
       have h0i : (0 ≤ (i : Int)) = True := eq_true (by omega)
       obtain ⟨r, hr⟩ : ∃ r, b[i] = r := ⟨_, rfl⟩
       have hrm : r ∈ b := by rw [← hr]; exact List.getElem_mem hi
       have hrl := hs r hrm
       have hr2 := Aside0.mk hr
       rw [hr] at o9 hl9 hC9
       clear e9 hr
       go_wp2_with fail
       by_cases hw : r.length = wdOf t.toNat
       ·have hw1 : ((r.length : Int) = ((wdOf t.toNat : Nat) : Int)) = True := eq_true (by omega)
        have hw2 : ((r.length : Int) == ((wdOf t.toNat : Nat) : Int)) = true := by simp <;> omega
        have hw3 : ((r.length : Int) != ((wdOf t.toNat : Nat) : Int)) = false := by simp <;> omega
        go_quiet ((go_at_call 60; (with_reducible refine (wide_specQ (by omega) ht.2 _).mono ?_); rintro e w' ⟨rfl, ⟨nd, rfl⟩⟩; (try first | exact ⟨rfl, _, World.drewN_drewN _ _ _⟩ | exact ⟨rfl, _, Eq.trans (World.drewN_drewN _ _ _) (congrArg (World.drewN _) (Nat.add_assoc _ _ _))⟩)))
        generalize nq = n1
        have hb3 := below_step hb.out (pw_below_drewN (Below.refl _ _) n1)
        have hHB := Aside0.mk hb3
        clear hw1 hw2 hw3 o0 o3 o9 hi1 h0i hb3
        generalize wo.drewN n1 = wp at *
        go_wp2_with fail
        go_loopg [5] r.length (fun kz v5 W => ∃ c : Nat, v5 = .int .i64 (c : Int) ∧ Aside0 (kz = r.length - c) ∧ c ≤ r.length ∧ Aside0 ((r.take c).all (okX a.length) = true) ∧ Aside0 (Below w.heap.size w W))
        case atStart => exact ⟨0, rfl, ⟨rfl⟩, Nat.zero_le _, ⟨rfl⟩, hHB⟩
        case round =>
         clear hHB
         obtain ⟨c, rfl, hkz, hcl, hac, hbz⟩ := hrel
         have o3 := at_cell hbz.out m3
         obtain ⟨ad2, e2, A8, c8, e8, hl8, hC8⟩ := at_row h3 i hi
         cases e2
         rw [hr2.out] at e8 hl8 hC8
         have o8 := at_cell hbz.out e8
         have hi1 : ((i : Int) < (b.length : Int)) = True := eq_true (by omega)
         have h0i : (0 ≤ (i : Int)) = True := eq_true (by omega)
         by_cases hc : c < r.length
         ·obtain ⟨ad3, rfl, e7⟩ := at_num hC8 c hc
          have o7 := at_cell hbz.out e7
          obtain ⟨x, hxe⟩ : ∃ x, r[c] = x := ⟨_, rfl⟩
          rw [hxe] at o7
          have hxe2 := Aside0.mk hxe
          have hc1 : ((c : Int) < (r.length : Int)) = True := eq_true (by omega)
          have h0c : (0 ≤ (c : Int)) = True := eq_true (by omega)
          clear e8 e7 hxe
          have hwl := hwl2.out
          cases hxx : okX a.length x with
          | true =>
           go_wp2_with (go_at_call 119; (with_reducible refine (hin.out x 0 ((a.length : Int) - 1) _).mono ?_); go_loud (
            rintro e w2 ⟨he, hb2⟩
            rw [in_x h1 ha, hxx] at he
            subst he
            have hB2 := below_step hbz.out hb2))
           clear hwl
           go_roundg (r.length - (c + 1))
           case measure => have := hkz.out; omega
           case rel => exact ⟨c + 1, (by go_num), ⟨rfl⟩, by omega, ⟨all_take hc hac.out (by rw [hxe2.out]; exact hxx)⟩, ⟨hB2⟩⟩
          | false =>
           go_wp2_with (go_at_call 119; (with_reducible refine (hin.out x 0 ((a.length : Int) - 1) _).mono ?_); go_loud (
            rintro e w2 ⟨he, hb2⟩
            rw [in_x h1 ha, hxx] at he
            subst he
            have hB2 := below_step hbz.out hb2))
           go_ret
           have hf : r.all (okX a.length) = false := all_false (by rw [← hxe2.out]; exact List.getElem_mem hc) hxx
           have hf2 : b.all (okW t a.length) = false := all_false hrm (by unfold okW; rw [hf, Bool.and_false])
           rw [hf2]
           exact ⟨rfl, hB2⟩
         ·have hc1 : ((c : Int) < (r.length : Int)) = False := eq_false (by omega)
          have hac2 := hac.out
          rw [List.take_of_length_le (by omega)] at hac2
          clear e8
          go_wp2_with fail
          go_roundg (b.length - (i + 1))
          case measure => have := hk.out; omega
          case rel => exact ⟨i + 1, (by go_num), ⟨rfl⟩, by omega, ⟨all_take hi hall.out (by rw [hr2.out]; unfold okW; rw [decide_eq_true hw, hac2]; rfl)⟩, hbz⟩
       ·have hw1 : ((r.length : Int) = ((wdOf t.toNat : Nat) : Int)) = False := eq_false (by omega)
        have hw2 : ((r.length : Int) == ((wdOf t.toNat : Nat) : Int)) = false := by simp <;> omega
        have hw3 : ((r.length : Int) != ((wdOf t.toNat : Nat) : Int)) = true := by simp <;> omega
        go_quiet ((go_at_call 60; (with_reducible refine (wide_specQ (by omega) ht.2 _).mono ?_); rintro e w' ⟨rfl, ⟨nd, rfl⟩⟩; (try first | exact ⟨rfl, _, World.drewN_drewN _ _ _⟩ | exact ⟨rfl, _, Eq.trans (World.drewN_drewN _ _ _) (congrArg (World.drewN _) (Nat.add_assoc _ _ _))⟩)))
        have hb3 := below_step hb.out (pw_below_drewN (Below.refl _ _) nq)
        go_wp2_with fail
        go_ret
        have hf2 : b.all (okW t a.length) = false := all_false hrm (by unfold okW; rw [decide_eq_false hw, Bool.false_and])
        rw [hf2]
        exact ⟨rfl, hb3⟩
      ·have hi1 : ((i : Int) < (b.length : Int)) = False := eq_false (by omega)
       have hall2 := hall.out
       rw [List.take_of_length_le (by omega)] at hall2
       go_wp2_with fail
       go_ret
       rw [hall2]
       exact ⟨rfl, hb.out⟩
    ·have hr : okF t s a b = false := by unfold okF; rw [decide_eq_false hl, Bool.and_false, Bool.false_and]
     rw [hr]
     have hl1 : ((b.length : Int) = (a.length : Int)) = False := eq_false (by omega)
     have hl2 : ((b.length : Int) == (a.length : Int)) = false := by simp <;> omega
     have hl3 : ((b.length : Int) != (a.length : Int)) = true := by simp <;> omega
     go_enter Tryd.func144, Tryd.ntmps144
     go_wp2_with (first
      | (go_at_call 119; (with_reducible refine (hin.out t 1 3 _).mono ?_); go_loud (
        rintro e w1 ⟨he, hb1⟩
        rw [ht1.out] at he
        subst he
        have n1 := at_cell hb1 m1
        have n2 := at_cell hb1 m3))
      | (go_at_call 119; (with_reducible refine (hin.out s 0 ((a.length : Int) - 1) _).mono ?_); go_loud (
        rintro e w2 ⟨he, hb2⟩
        rw [in_x h1 ha, hx] at he
        subst he
        have hB2 := below_step hb1 hb2
        have n3 := at_cell hB2 m3)))
     go_ret
     exact ⟨rfl, hB2⟩
  ·have h1a : ((a.length : Int) < 1) = True := eq_true (by omega)
   have hr : okF t s a b = false := by unfold okF; rw [decide_eq_false h1, Bool.and_false, Bool.false_and, Bool.false_and, Bool.false_and]
   rw [hr]
   go_enter Tryd.func144, Tryd.ntmps144
   go_wp2_with (go_at_call 119; (with_reducible refine (hin.out t 1 3 _).mono ?_); go_loud (
     rintro e w1 ⟨he, hb1⟩
     rw [ht1.out] at he
     subst he))
   go_ret
   exact ⟨rfl, hb1⟩
 ·have ht1 := Aside0.mk (decide_eq_false ht)
  have hr : okF t s a b = false := by unfold okF; rw [decide_eq_false ht, Bool.false_and, Bool.false_and, Bool.false_and, Bool.false_and]
  rw [hr]
  go_enter Tryd.func144, Tryd.ntmps144
  go_wp2_with (go_at_call 119; (with_reducible refine (hin.out t 1 3 _).mono ?_); go_loud (
    rintro e w1 ⟨he, hb1⟩
    rw [ht1.out] at he
    subst he))
  go_ret
  exact ⟨rfl, hb1⟩
def okR (t s : Int) (a : List Bool) (b : List (List Int)) : Bool := decide (a.length ≤ 150) && okF t s a b
theorem okR_of (t s : Int) (a : List Bool) (b : List (List Int)) : okR t s a b = (decide (1 ≤ t ∧ t ≤ 3) && (decide (1 ≤ (a.length : Int) ∧ (a.length : Int) ≤ 150) && (decide (b.length = a.length) && (okX a.length s && b.all (okW t a.length))))) := by
 unfold okR okF
 have e : decide (1 ≤ (a.length : Int) ∧ (a.length : Int) ≤ 150) = (decide (1 ≤ a.length) && decide (a.length ≤ 150)) := by
  rw [← Bool.decide_and, decide_eq_decide]
  omega
 rw [e]
 cases decide (1 ≤ t ∧ t ≤ 3) <;> cases decide (1 ≤ a.length) <;> cases decide (a.length ≤ 150) <;> cases decide (b.length = a.length) <;> cases okX a.length s <;> simp
set_option maxHeartbeats 4000000 in
/-- The program's test of a relation. -/
theorem valid (t s : Int) (A2 : Option Addr) (c2 : Nat) (a : List Bool) (A3 : Option Addr) (c3 : Nat) (b : List (List Int)) (w : World)
  (h3 : Kd.C (Kd.slice 2 (Kd.int .i64)) w A3 b.length b) (l3 : b.length ≤ c3) (ha : a.length ≤ 1048576) (hb : b.length ≤ 1048576) (hs : ∀ r ∈ b, r.length ≤ 1048576) :
  Calls Tryd.prog 90 #[.agg #[.int .i64 t, .int .i64 s, .slice A2 a.length c2, .slice A3 b.length c3]] w fun e w' => e = .returned (.bool (okR t s a b)) ∧ Below w.heap.size w w' := by
 have hB0 : Below w.heap.size w (w.alloc (.cells #[.int .i64 t, .int .i64 s, .slice A2 a.length c2, .slice A3 b.length c3] 29)) := below_alloc (Below.refl _ _) _
 have hP := blk_new w (.cells #[.int .i64 t, .int .i64 s, .slice A2 a.length c2, .slice A3 b.length c3] 29)
 have m0 : (w.alloc (.cells #[.int .i64 t, .int .i64 s, .slice A2 a.length c2, .slice A3 b.length c3] 29)).cell? ⟨w.heap.size, 0, none⟩ = some (.int .i64 t) := (blk_cell hP 0).trans rfl
 have m1 : (w.alloc (.cells #[.int .i64 t, .int .i64 s, .slice A2 a.length c2, .slice A3 b.length c3] 29)).cell? ⟨w.heap.size, 1, none⟩ = some (.int .i64 s) := (blk_cell hP 1).trans rfl
 have m2 : (w.alloc (.cells #[.int .i64 t, .int .i64 s, .slice A2 a.length c2, .slice A3 b.length c3] 29)).cell? ⟨w.heap.size, 2, none⟩ = some (.slice A2 a.length c2) := (blk_cell hP 2).trans rfl
 have m3 : (w.alloc (.cells #[.int .i64 t, .int .i64 s, .slice A2 a.length c2, .slice A3 b.length c3] 29)).cell? ⟨w.heap.size, 3, none⟩ = some (.slice A3 b.length c3) := (blk_cell hP 3).trans rfl
 have hin := Aside0.mk in_impl
 rw [okR_of]
 cases ht : decide (1 ≤ t ∧ t ≤ 3) with
 | false =>
  rw [Bool.false_and]
  have ht1 := Aside0.mk ht
  go_enter Tryd.func90, Tryd.ntmps90
  go_wp2_with (go_at_call 146; (with_reducible refine (tapes_impl t _).mono ?_); go_loud (
   rintro e w1 ⟨he, hb1⟩
   rw [ht1.out] at he
   subst he
   have k1 := at_cell hb1 m3))
  go_ret
  exact ⟨rfl, below_step hB0 hb1⟩
 | true =>
 rw [Bool.true_and]
 have ht1 := Aside0.mk ht
 have ht2 := Aside0.mk (of_decide_eq_true ht)
 clear ht
 cases h1 : decide (1 ≤ (a.length : Int) ∧ (a.length : Int) ≤ 150) with
 | false =>
  rw [Bool.false_and]
  have h12 := Aside0.mk h1
  clear h1
  go_enter Tryd.func90, Tryd.ntmps90
  go_wp2_with (first | (go_at_call 146; (with_reducible refine (tapes_impl t _).mono ?_); go_loud (
   rintro e w1 ⟨he, hb1⟩
   rw [ht1.out] at he
   subst he
   have k1 := at_cell hb1 m3)) | (go_at_call 123; (with_reducible refine (hin.out (a.length : Int) 1 150 _).mono ?_); go_loud (
   rintro e w2 ⟨he, hb2⟩
   rw [h12.out] at he
   subst he
   have k2 := at_cell (below_step hb1 hb2) m3
   have k3 := at_cell (below_step hb1 hb2) m1
   have hB2 := below_step hB0 (below_step hb1 hb2))))
  go_ret
  exact ⟨rfl, hB2⟩
 | true =>
 rw [Bool.true_and]
 have h12 := Aside0.mk h1
 have h13 : 1 ≤ a.length ∧ a.length ≤ 150 := by have := of_decide_eq_true h1; omega
 clear h1
 by_cases hl : b.length = a.length
 case neg =>
  have hl1 : ((b.length : Int) = (a.length : Int)) = False := eq_false (by omega)
  have hl2 : ((b.length : Int) == (a.length : Int)) = false := by simp <;> omega
  have hl3 : ((b.length : Int) != (a.length : Int)) = true := by simp <;> omega
  rw [decide_eq_false hl, Bool.false_and]
  go_enter Tryd.func90, Tryd.ntmps90
  go_wp2_with (first | (go_at_call 146; (with_reducible refine (tapes_impl t _).mono ?_); go_loud (
   rintro e w1 ⟨he, hb1⟩
   rw [ht1.out] at he
   subst he
   have k1 := at_cell hb1 m3)) | (go_at_call 123; (with_reducible refine (hin.out (a.length : Int) 1 150 _).mono ?_); go_loud (
   rintro e w2 ⟨he, hb2⟩
   rw [h12.out] at he
   subst he
   have k2 := at_cell (below_step hb1 hb2) m3
   have k3 := at_cell (below_step hb1 hb2) m1
   have hB2 := below_step hB0 (below_step hb1 hb2))))
  go_ret
  exact ⟨rfl, hB2⟩
 have hl1 : ((b.length : Int) = (a.length : Int)) = True := eq_true (by omega)
 have hl2 : ((b.length : Int) == (a.length : Int)) = true := by simp <;> omega
 have hl3 : ((b.length : Int) != (a.length : Int)) = false := by simp <;> omega
 have hwl : wrap64 ((a.length : Int) - 1) = (a.length : Int) - 1 := by unfold wrap64; omega
 rw [decide_eq_true hl, Bool.true_and]
 clear hl
 cases hx : okX a.length s with
 | false =>
  rw [Bool.false_and]
  have hx2 := Aside0.mk hx
  clear hx
  go_enter Tryd.func90, Tryd.ntmps90
  go_wp2_with (first | (go_at_call 146; (with_reducible refine (tapes_impl t _).mono ?_); go_loud (
   rintro e w1 ⟨he, hb1⟩
   rw [ht1.out] at he
   subst he
   have k1 := at_cell hb1 m3)) | (go_at_call 123; (with_reducible refine (hin.out (a.length : Int) 1 150 _).mono ?_); go_loud (
   rintro e w2 ⟨he, hb2⟩
   rw [h12.out] at he
   subst he
   have k2 := at_cell (below_step hb1 hb2) m3
   have k3 := at_cell (below_step hb1 hb2) m1
   have hB2 := below_step hB0 (below_step hb1 hb2))) | (go_at_call 123; (with_reducible refine (hin.out s 0 ((a.length : Int) - 1) _).mono ?_); go_loud (
   rintro e w3 ⟨he, hb3⟩
   rw [in_x h13.1 ha, hx2.out] at he
   subst he
   have k4 := at_cell (below_step (below_step hb1 hb2) hb3) m3
   have k5 := at_cell (below_step (below_step hb1 hb2) hb3) m1
   have hBB := Aside0.mk (below_step (below_step hb1 hb2) hb3)
   have hB3 := below_step hB2 hb3)))
  go_ret
  exact ⟨rfl, hB3⟩
 | true =>
 rw [Bool.true_and]
 have hx2 := Aside0.mk hx
 clear hx
 go_enter Tryd.func90, Tryd.ntmps90
 go_wp2_with (first | (go_at_call 146; (with_reducible refine (tapes_impl t _).mono ?_); go_loud (
   rintro e w1 ⟨he, hb1⟩
   rw [ht1.out] at he
   subst he
   have k1 := at_cell hb1 m3)) | (go_at_call 123; (with_reducible refine (hin.out (a.length : Int) 1 150 _).mono ?_); go_loud (
   rintro e w2 ⟨he, hb2⟩
   rw [h12.out] at he
   subst he
   have k2 := at_cell (below_step hb1 hb2) m3
   have k3 := at_cell (below_step hb1 hb2) m1
   have hB2 := below_step hB0 (below_step hb1 hb2))) | (go_at_call 123; (with_reducible refine (hin.out s 0 ((a.length : Int) - 1) _).mono ?_); go_loud (
   rintro e w3 ⟨he, hb3⟩
   rw [in_x h13.1 ha, hx2.out] at he
   subst he
   have k4 := at_cell (below_step (below_step hb1 hb2) hb3) m3
   have k5 := at_cell (below_step (below_step hb1 hb2) hb3) m1
   have hBB := Aside0.mk (below_step (below_step hb1 hb2) hb3)
   have hB3 := below_step hB2 hb3)))
 have hwl2 := Aside0.mk hwl
 have hb4 := Aside0.mk hb3
 clear hl1 hl2 hl3 hwl hb1 hb2 hb3 k1 k2 k3 k4 k5 hB2 hB3
 have hBz : Below (w.alloc (.cells #[.int .i64 t, .int .i64 s, .slice A2 a.length c2, .slice A3 b.length c3] 29)).heap.size (w.alloc (.cells #[.int .i64 t, .int .i64 s, .slice A2 a.length c2, .slice A3 b.length c3] 29)) w3 := hBB.out
 clear hBB hb4
 go_loopg [38] b.length (fun kq v38 W => ∃ i : Nat, v38 = .int .i64 (i : Int) ∧ Aside0 (kq = b.length - i) ∧ i ≤ b.length ∧ Aside0 ((b.take i).all (okW t a.length) = true) ∧ Aside0 (Below (w.alloc (.cells #[.int .i64 t, .int .i64 s, .slice A2 a.length c2, .slice A3 b.length c3] 29)).heap.size (w.alloc (.cells #[.int .i64 t, .int .i64 s, .slice A2 a.length c2, .slice A3 b.length c3] 29)) W))
 case atStart => exact ⟨0, rfl, ⟨rfl⟩, Nat.zero_le _, ⟨rfl⟩, ⟨hBz⟩⟩
 case round =>
  clear hBz
  obtain ⟨wo, rfl⟩ : ∃ wo : World, wo = wr := ⟨_, rfl⟩
  obtain ⟨i, rfl, hk, hil, hall, hbo⟩ := hrel
  have o0 := at_cell hbo.out m0
  by_cases hi : i < b.length
  ·obtain ⟨ad, rfl, A9, c9, e9, hl9, hC9⟩ := at_row h3 i hi
   have o9 := at_cell (below_step hB0 hbo.out) e9
   have hi1 : ((i : Int) < (b.length : Int)) = True := eq_true (by omega)
   have h0i : (0 ≤ (i : Int)) = True := eq_true (by omega)
   obtain ⟨r, hr⟩ : ∃ r, b[i] = r := ⟨_, rfl⟩
   have hrm : r ∈ b := by rw [← hr]; exact List.getElem_mem hi
   have hrl := hs r hrm
   have hr2 := Aside0.mk hr
   rw [hr] at o9 hl9 hC9
   clear e9 hr
   by_cases hw : r.length = wdOf t.toNat
   ·have hw1 : ((r.length : Int) = ((wdOf t.toNat : Nat) : Int)) = True := eq_true (by omega)
    have hw2 : ((r.length : Int) == ((wdOf t.toNat : Nat) : Int)) = true := by simp <;> omega
    have hw3 : ((r.length : Int) != ((wdOf t.toNat : Nat) : Int)) = false := by simp <;> omega
    have hwq := Aside0.mk hw
    clear hw
    go_wp2_with (go_at_call 124; (with_reducible refine (wide_impl (by have := ht2.out; omega) ht2.out.2 _).mono ?_); go_loud (
     rintro e w4 ⟨rfl, hb4⟩))
    have hHB := Aside0.mk (below_step hbo.out hb4)
    clear hw1 hw2 hw3 o0 o9 hb4
    go_loopg [50] r.length (fun kz v50 W => ∃ c : Nat, v50 = .int .i64 (c : Int) ∧ Aside0 (kz = r.length - c) ∧ c ≤ r.length ∧ Aside0 ((r.take c).all (okX a.length) = true) ∧ Aside0 (Below (w.alloc (.cells #[.int .i64 t, .int .i64 s, .slice A2 a.length c2, .slice (some ad) b.length c3] 29)).heap.size (w.alloc (.cells #[.int .i64 t, .int .i64 s, .slice A2 a.length c2, .slice (some ad) b.length c3] 29)) W))
    case atStart => exact ⟨0, rfl, ⟨rfl⟩, Nat.zero_le _, ⟨rfl⟩, hHB⟩
    case round =>
     clear hHB
     obtain ⟨c, rfl, hkz, hcl, hac, hbz⟩ := hrel
     by_cases hc : c < r.length
     ·obtain ⟨ad3, rfl, e7⟩ := at_num hC9 c hc
      have o7 := at_cell (below_step hB0 hbz.out) e7
      obtain ⟨x, hxe⟩ : ∃ x, r[c] = x := ⟨_, rfl⟩
      rw [hxe] at o7
      have hxe2 := Aside0.mk hxe
      have hc1 : ((c : Int) < (r.length : Int)) = True := eq_true (by omega)
      have h0c : (0 ≤ (c : Int)) = True := eq_true (by omega)
      clear e7 hxe
      have hwl := hwl2.out
      cases hxx : okX a.length x with
      | true =>
       go_wp2_with (go_at_call 123; (with_reducible refine (hin.out x 0 ((a.length : Int) - 1) _).mono ?_); go_loud (
        rintro e w2 ⟨he, hb2⟩
        rw [in_x h13.1 ha, hxx] at he
        subst he
        have hB2 := below_step hbz.out hb2))
       clear hwl
       go_roundg (r.length - (c + 1))
       case measure => have := hkz.out; omega
       case rel => exact ⟨c + 1, (by go_num), ⟨rfl⟩, by omega, ⟨all_take hc hac.out (by rw [hxe2.out]; exact hxx)⟩, ⟨hB2⟩⟩
      | false =>
       go_wp2_with (go_at_call 123; (with_reducible refine (hin.out x 0 ((a.length : Int) - 1) _).mono ?_); go_loud (
        rintro e w2 ⟨he, hb2⟩
        rw [in_x h13.1 ha, hxx] at he
        subst he
        have hB2 := below_step hbz.out hb2))
       go_ret
       have hf : r.all (okX a.length) = false := all_false (by rw [← hxe2.out]; exact List.getElem_mem hc) hxx
       have hf2 : b.all (okW t a.length) = false := all_false hrm (by unfold okW; rw [hf, Bool.and_false])
       rw [hf2]
       exact ⟨rfl, below_step hB0 hB2⟩
     ·have hc1 : ((c : Int) < (r.length : Int)) = False := eq_false (by omega)
      have hac2 := hac.out
      rw [List.take_of_length_le (by omega)] at hac2
      go_wp2_with fail
      go_roundg (b.length - (i + 1))
      case measure => have := hk.out; omega
      case rel => exact ⟨i + 1, (by go_num), ⟨rfl⟩, by omega, ⟨all_take hi hall.out (by rw [hr2.out]; unfold okW; rw [decide_eq_true hwq.out, hac2]; rfl)⟩, hbz⟩
   ·have hw1 : ((r.length : Int) = ((wdOf t.toNat : Nat) : Int)) = False := eq_false (by omega)
    have hw2 : ((r.length : Int) == ((wdOf t.toNat : Nat) : Int)) = false := by simp <;> omega
    have hw3 : ((r.length : Int) != ((wdOf t.toNat : Nat) : Int)) = true := by simp <;> omega
    go_wp2_with (go_at_call 124; (with_reducible refine (wide_impl (by have := ht2.out; omega) ht2.out.2 _).mono ?_); go_loud (
     rintro e w4 ⟨rfl, hb4⟩))
    go_ret
    have hf2 : b.all (okW t a.length) = false := all_false hrm (by unfold okW; rw [decide_eq_false hw, Bool.false_and])
    rw [hf2]
    exact ⟨rfl, below_step (below_step hB0 hbo.out) hb4⟩
  ·have hi1 : ((i : Int) < (b.length : Int)) = False := eq_false (by omega)
   have hall2 := hall.out
   rw [List.take_of_length_le (by omega)] at hall2
   go_wp2_with fail
   go_ret
   rw [hall2]
   exact ⟨rfl, below_step hB0 hbo.out⟩
end Go.Proofs.YtbamnonamdpooaaDoor.Lr
namespace Go.Proofs.YtbamnonamdpooaaDoor.Rw
set_option linter.unusedVariables false
set_option linter.unusedSimpArgs false
open Go.RowKit Go.Proofs.YtbamnonamdpooaaDoorW.PrintWords Go.Proofs.YtbamnonamdpooaaDoorW.PrintLast Go.Proofs.YtbamnonamdpooaaDoorW.PrintMore Mp Kp PL1 Go.Proofs.YtbamnonamdpooaaDoor.Pure
abbrev Row : Kd (List Int) := Kd.slice 2 (Kd.int .i64)
theorem info_row : (Tryd.prog.info? 86).map (fun i => (i.zero, i.size, i.bytes)) = some (some (.slice none 0 0), 1, 24) := by kernel_rfl
theorem set_row (l : List (List Int)) {i : Nat} (hi : i < l.length) : (l.take i ++ List.replicate (l.length - i) []).set i l[i] = l.take (i + 1) ++ List.replicate (l.length - (i + 1)) [] := by
 have e : l.length - i = (l.length - (i + 1)) + 1 := by omega
 have ht : (l.take i).length = i := by simp; omega
 rw [e, List.replicate_succ, List.set_append_right _ _ (by omega), ht, Nat.sub_self, List.set_cons_zero, List.take_succ_eq_append_getElem hi, List.append_assoc]
 rfl
/-- A new row is put into a row of rows. -/
theorem put_row {w0 w w1 : World} {g n cap i : Nat} {v5 : Value} {r : List Int} {ys : List (List Int)} (h : Kd.S Row 86 w w0.heap.size (fun _ => True) (.slice (some ⟨g, 0, none⟩) n cap) ys) (hn : i < n)
  (hR : (Kd.int .i64).R 2 w1 w.heap.size (fun _ => True) v5 r) (hb : Below w.heap.size w w1) (hw : w0.heap.size ≤ w.heap.size) :
  (∃ ve, w1.cell? ⟨g, i, none⟩ = some ve) ∧ w1.frozen? ⟨g, i, none⟩ = false ∧ Kd.S Row 86 (w1.setCell ⟨g, i, none⟩ v5) w0.heap.size (fun _ => True) (.slice (some ⟨g, 0, none⟩) n cap) (ys.set i r) := by
 have h1 := Kd.S_elder' h (Kd.R_base hR) hb
 have hT := Kd.S_typed h1
 have h2 : Kd.S Row 86 w1 w0.heap.size (fun k => (fun _ => True) k ∧ ¬ (fun k => some k = v5.ownBlock) k) (.slice (some ⟨g, 0, none⟩) n cap) ys := Kd.S_mono h1 (fun k hk => ⟨trivial, fun e => hk.2 e⟩)
 obtain ⟨oki, ce, hcl, hM, hcc, hfr, hoki, hH⟩ := Kd.S_elem h2 [] (i : Int) (by omega) (by omega)
 have hR2 := Kd.R_lower hR hw
 have hap := Kd.R_mono (ok' := fun k => (fun _ => True) k ∧ k ≠ g) (Kd.R_apart' hR2 hT (by decide)) (fun k hk => ⟨trivial, fun e => hk.2 (by rw [e]; rfl)⟩)
 obtain ⟨ve, rfl, ge⟩ := hM
 have hP := Kd.S_seg hH (by omega) (by omega) (seg := [v5]) (j := 0) (show 1 ≤ 1 from by decide) (x' := r) (Kd.M_row (Kd.R_mono (Kd.R_tight rfl hap) (fun _ h => Or.inr h))) (fun _ hk => hk) (fun k hk => hap.1 k hk.symm)
 have hc0 := hcc 0 _ rfl
 have hf0 := hfr 0
 have es : Row.sz = 1 := rfl
 simp only [es, Nat.mul_one, Nat.add_zero, Int.toNat_natCast] at hc0 hf0 hP
 exact ⟨⟨_, hc0⟩, hf0, hP.1⟩
set_option maxHeartbeats 2000000 in
set_option maxRecDepth 100000 in
theorem toRows (A0 : Option Addr) (c0 : Nat) (l0 : List (List Int)) (w : World) (hr0 : Kd.C Row w A0 l0.length l0) (hc0 : l0.length ≤ c0) (hl : l0.length ≤ 1048576)
  (hcall : ∀ W A c (r : List Int), r ∈ l0 → Kd.C (Kd.int .i64) W A r.length r → r.length ≤ c → Calls Tryd.prog 112 #[.slice A r.length c] W fun e W' => ∃ v, e = .returned v ∧ (Kd.int .i64).R 2 W' W.heap.size (fun _ => True) v r ∧ Below W.heap.size W W') :
  Calls Tryd.prog 51 #[.slice A0 l0.length c0] w fun e w' => ∃ v, e = .returned v ∧ Kd.S Row 86 w' w.heap.size (fun _ => True) v l0 ∧ Below w.heap.size w w' := by
 have hcal := Aside0.mk hcall
 clear hcall
 go_enter Tryd.func51, Tryd.ntmps51
 go_wp2_with ((with_reducible refine gate_dst (N := 7) rfl ?_); go_loud (
  refine Kd.S_make Row (w0 := w) w.heap.size 86 rfl (N := 7) rfl 23 _ _ rfl (l0.length : Int) rfl rfl Tryd.underlying23 (.slice none 0 0) 24 info_row rfl (by decide) (by decide) [] (ok := fun _ => True) (okp := fun _ => False) ⟨_, rfl, Kd.R_nil _ _ _ _ _⟩ (fun _ h => h.elim) trivial (by omega) (by simp; omega) (Below.refl _ _) (Nat.le_refl _) ?_
  intro v1 w1 hS1 hb1 hg1 hn1
  rw [Int.toNat_natCast] at hS1
  obtain ⟨A1, c1, hv1⟩ := Kd.S_slice hS1
  rw [List.length_replicate] at hv1
  subst hv1))
 clear hg1 hn1
 go_loopg [4] l0.length (fun kq v4 W => ∃ i : Nat, v4 = .int .i64 (i : Int) ∧ Aside0 (kq = l0.length - i) ∧ i ≤ l0.length ∧ Aside0 (Kd.S Row 86 W w.heap.size (fun _ => True) (.slice A1 l0.length c1) (l0.take i ++ List.replicate (l0.length - i) [])) ∧ Aside0 (Below w.heap.size w W))
 case atStart => exact ⟨0, rfl, ⟨rfl⟩, Nat.zero_le _, ⟨by simpa using hS1⟩, ⟨hb1⟩⟩
 case round =>
  clear hS1 hb1
  obtain ⟨i, rfl, hk, hil, hS, hb⟩ := hrel
  by_cases hi : i < l0.length
  ·obtain ⟨ad, rfl, A9, c9, e9, hl9, hC9⟩ := at_row hr0 i hi
   have e9' := (hb.out.cell (World.block_lt_of_cell? w _ e9)).trans e9
   have hi1 : ((i : Int) < (l0.length : Int)) = True := eq_true (by omega)
   have h0i : (0 ≤ (i : Int)) = True := eq_true (by omega)
   obtain ⟨g, cg, hvg, hgb, hgl, cells, hcg⟩ := Kd.S_form hS.out (by simp; omega)
   obtain ⟨rfl, rfl⟩ : A1 = some ⟨g, 0, none⟩ ∧ c1 = cg := by
    simp only [Value.slice.injEq] at hvg
    exact ⟨hvg.1, hvg.2.2⟩
   obtain ⟨r, hr⟩ : ∃ r, l0[i] = r := ⟨_, rfl⟩
   have hrm : r ∈ l0 := by rw [← hr]; exact List.getElem_mem hi
   have hst := Aside0.mk (set_row l0 hi)
   rw [hr] at hst e9' hl9 hC9
   clear hvg hcg cells e9 hr
   go_wp2_with (go_at_call 112; go_loud (
    with_reducible refine (hcal.out _ _ _ r hrm (Kd.C_below hC9 hb.out) hl9).mono ?_
    rintro e w5 ⟨v5, rfl, hR5, hb5⟩
    obtain ⟨⟨ve, hx5⟩, hf5, hP5⟩ := put_row (w0 := w) hS.out (i := i) hi hR5 hb5 (Below.size hb.out)
    have hB5 := (below_step hb.out hb5).setCell (p := ⟨g, i, none⟩) hgb v5
    obtain ⟨A5, c5, hv5⟩ := Kd.R_slice hR5
    subst hv5))
   go_roundg (l0.length - (i + 1))
   case measure => have := hk.out; omega
   case rel => exact ⟨i + 1, (by go_num), ⟨rfl⟩, by omega, ⟨by rw [← hst.out]; exact hP5⟩, ⟨hB5⟩⟩
  ·have hi1 : ((i : Int) < (l0.length : Int)) = False := eq_false (by omega)
   obtain rfl : i = l0.length := by omega
   have hS2 := hS.out
   rw [List.take_of_length_le (Nat.le_refl _), Nat.sub_self, List.replicate_zero, List.append_nil] at hS2
   go_wp2_with fail
   go_ret
   exact ⟨_, rfl, hS2, hb.out⟩
/-! ### told -/
theorem toLongs_ev (xs : List Int) (h : xs.length ≤ 1048576) : Ev (fun k => laws_toInt64S.f k xs) xs := by
 have key := ev_copy (fun k ys i => laws_toInt64S.l0 k xs ys i) xs 0
  (fun ys hy => ev_const (fun k => by simp [laws_toInt64S.l0]))
  (fun i hi ys r hy H => ev_step (fun k => by
   simp only [laws_toInt64S.l0]
   rw [if_pos (by omega), if_pos (by omega), if_pos (by omega), rd_nat xs i hi, wrap_up (by omega), Int.toNat_natCast]) H)
 exact Ev.congr (fun k => by unfold laws_toInt64S.f; rw [if_pos (by omega), if_pos (by simp; omega)]; simp) key
def laws_toInt64SS.f (l0 : List (List Int)) : Option (List (List Int)) := if l0.length ≤ 1048576 ∧ ∀ r ∈ l0, r.length ≤ 1048576 then some l0 else none
theorem laws_toInt64SS.calls (A0 : Option Addr) (c0 : Nat) (l0 : List (List Int)) (r : List (List Int)) (w : World) (hr0 : Kd.C (Kd.slice 2 (Kd.int .i64)) w A0 l0.length l0) (hc0 : l0.length ≤ c0) (h : laws_toInt64SS.f l0 = some r) :
  Calls Tryd.prog 51 #[.slice A0 l0.length c0] w fun e w' => ∃ v0_ : Value, e = .returned (v0_) ∧ Kd.S (Kd.slice 2 (Kd.int .i64)) 86 w' w.heap.size (fun _ => True) v0_ r ∧ Below w.heap.size w w' := by
 unfold laws_toInt64SS.f at h
 split at h
 ·rename_i hh
  obtain rfl := Option.some.inj h
  refine toRows A0 c0 l0 w hr0 hc0 hh.1 (fun W A c r hr hC hc => ?_)
  obtain ⟨k, hk⟩ := (toLongs_ev r (hh.2 r hr)).rounds
  exact laws_toInt64S.calls k A c r r W hC hc hk
 ·cases h
end Go.Proofs.YtbamnonamdpooaaDoor.Rw
namespace Go.Proofs.YtbamnonamdpooaaDoor.PT3
open Go.RowKit Go.Proofs.YtbamnonamdpooaaDoorW.PrintWords Go.Proofs.YtbamnonamdpooaaDoorW.PrintLast Go.Proofs.YtbamnonamdpooaaDoorW.PrintMore PL1 Rw
attribute [local go_sem] max2_int min2_int max_two min_two max_three min_three max_four min_four   -- for this text's walks alone
set_option linter.unusedVariables false
set_option linter.unusedSimpArgs false
def errW : Option Int → Value
 | none => .nilIface
 | some c => .iface 0 (.int .i64 c)
theorem errW_none : errW none = .nilIface := rfl
theorem errW_some (c : Int) : errW (some c) = .iface 0 (.int .i64 c) := rfl
theorem info4 : (Tryd.prog.info? 4).map (fun i => (i.zero, i.size, i.bytes)) = some (some (.bool false), 1, 1) := by kernel_rfl
def rd_L2 (xs : List (List Int)) (i : Int) : (List Int) := xs.getD i.toNat ([] : List Int)
theorem at_L2 {w : World} {A : Option Addr} {n : Nat} {xs : List (List Int)} (h : Kd.C (Kd.slice 2 (Kd.int .i64)) w A n xs) (i : Int) (h0 : 0 ≤ i) (h1 : i < n) : ∃ ad A0 c0, A = some ad ∧ w.cell? (ad.add i.toNat) = some (.slice A0 (rd_L2 xs i).length c0) ∧ (rd_L2 xs i).length ≤ c0 ∧ (Kd.int .i64).C w A0 (rd_L2 xs i).length (rd_L2 xs i) := by
 obtain ⟨ad, c, e, _, hK, hc0⟩ := Kd.C_get h ([] : List Int) i h0 h1
 have hc : ∀ j u, c[j]? = some u → w.cell? (ad.add (i.toNat * 1 + j)) = some u := hc0
 obtain ⟨A0, c0, rfl, l0, g0⟩ := hK
 exact ⟨ad, A0, c0, e, by have hq := hc 0 _ rfl; rwa [Nat.mul_one, Nat.add_zero] at hq, l0, g0⟩
end Go.Proofs.YtbamnonamdpooaaDoor.PT3
