/- Parts of the proof, put together by a program of the session. -/
import Derived.Test.YtbamnonamdpooaaDoorCore0
import Derived.Test.YtbamnonamdpooaaDoorCore2
import Derived.Test.YtbamnonamdpooaaDoorCore1
import Derived.Test.YtbamnonamdpooaaDoorProg
import Derived.Below
import Derived.Deep.Draws
import Derived.Deep.AppendLies
import Derived.Maps.AppendAt
import Derived.OwnWalk
import Derived.Laws.BytesArg
import Derived.Laws.MakeOwn
import Derived.Laws.OwnMore
import Derived.Deep.OwnRows
import Derived.Tactics
import Derived.Lib.ConvBytes
import Derived.Laws.Slices
import Derived.WalkKit
import Derived.KernelRfl
import Derived.RowKit3
import Derived.Deep.LoopGhost
import Derived.Deep.QuietTactic
import Derived.BigQuiet
import Derived.WideLaws
import Derived.Deep.DeepCutAuto
import Derived.Deep.CutBlock
import Derived.Deep.RegionHeld3
import Derived.Laws.Rows
import Derived.Lib.AppendStr
import Derived.ArgAppend
import Derived.Laws.IdiomCopy
import Derived.OrdersHeld
import Derived.Laws.BitsLemmas
import Derived.RowKit
import Derived.ChangeKeysEq
import Derived.Test.YtbamnonamdpooaaDoorCWords
import Derived.Test.YtbamnonamdpooaaDoorCLast
import Derived.Test.YtbamnonamdpooaaDoorCTab
import Derived.Test.YtbamnonamdpooaaDoorCFour
import Derived.Test.YtbamnonamdpooaaDoorCQPut
import Derived.Test.YtbamnonamdpooaaDoorCApart
import Derived.Test.YtbamnonamdpooaaDoorCArr
import Derived.Test.YtbamnonamdpooaaDoorCZeros
import Derived.Test.YtbamnonamdpooaaDoorCFoot
import Derived.Test.YtbamnonamdpooaaDoorCKept
import Derived.Test.YtbamnonamdpooaaDoorCShare
import Derived.Test.YtbamnonamdpooaaDoorCN
import Derived.Test.YtbamnonamdpooaaDoorCFootNe
import Derived.Test.YtbamnonamdpooaaDoorCAt
import Derived.Test.YtbamnonamdpooaaDoorCEqStruct
import Derived.Test.YtbamnonamdpooaaDoorCRepsOne
import Derived.Test.YtbamnonamdpooaaDoorCInv
import Derived.Test.YtbamnonamdpooaaDoorCInvWords
import Derived.Test.YtbamnonamdpooaaDoorCGuard
import Derived.Test.YtbamnonamdpooaaDoorCNEv
import Derived.Test.YtbamnonamdpooaaDoorCMore
namespace Go.Proofs.YtbamnonamdpooaaDoor.Tf
set_option linter.unusedVariables false
set_option linter.unusedSimpArgs false
open Go.RowKit Go.Proofs.YtbamnonamdpooaaDoorW.PrintWords Go.Proofs.YtbamnonamdpooaaDoorW.PrintLast Go.Proofs.YtbamnonamdpooaaDoorW.PrintMore Tdy Td Mg Rg Ti Go.Proofs.YtbamnonamdpooaaDoor.Pure PB1
def wdOf (t : Nat) : Nat := 3 ^ t - 1
def digs : Nat → Nat → List Nat
 | 0, _ => []
 | t + 1, c => c % 3 :: digs t (c / 3)
def padT (t : Nat) : Nat → Nat := padOf (digs t)
theorem digs_len : ∀ (t c : Nat), (digs t c).length = t
 | 0, _ => rfl
 | t + 1, c => by rw [digs, List.length_cons, digs_len t]
theorem digs_lt : ∀ (t c : Nat), ∀ d ∈ digs t c, d < 3
 | 0, _, d, h => by cases h
 | t + 1, c, d, h => by
  rcases List.mem_cons.1 h with rfl | h
  ·exact Nat.mod_lt _ (by decide)
  ·exact digs_lt t _ d h
theorem fin_wide : ∀ t : Nat, t < 4 → impl_widthOf.f 10 (t : Int) = some ((wdOf t : Nat) : Int) ∧ spec_l01Wide.f 10 (t : Int) = some ((wdOf t : Nat) : Int) := by decide +kernel
theorem fin_digs : ∀ t : Nat, t < 4 → ∀ c : Nat, c < 26 → impl_digitsOf.f 10 (t : Int) (c : Int) = some (ints (digs t c)) := by decide +kernel
theorem fin_pad : ∀ t, t < 4 → ∀ c, c < 26 → padT t c < 2 ^ t := by decide +kernel
theorem wd_le : ∀ t, t < 4 → wdOf t ≤ 26 := by decide
theorem wd_pos : ∀ t, t < 4 → 0 < t → 0 < wdOf t := by decide
def enI' (o : Option Nat) : Int := match o with
 | none => -1
 | some e' => (e' : Int)
def endB (t e c : Nat) : Bool := decide (spec_l01Ended.f 60 (t : Int) (e : Int) (c : Int) = some (enI' (enC (padT t) e c)))
theorem fin_end : ((List.range 4).all fun t => (List.range (2 ^ t)).all fun e => (List.range (wdOf t)).all fun c => endB t e c) = true := by decide +kernel
theorem fin_ended (t : Nat) (ht : t < 4) (e : Nat) (he : e < 2 ^ t) (c : Nat) (hc : c < wdOf t) : spec_l01Ended.f 60 (t : Int) (e : Int) (c : Int) = some (enI' (enC (padT t) e c)) := by
 have h1 := List.all_eq_true.1 fin_end t (List.mem_range.2 ht)
 have h2 := List.all_eq_true.1 h1 e (List.mem_range.2 he)
 exact of_decide_eq_true (List.all_eq_true.1 h2 c (List.mem_range.2 hc))
/-! ### classes -/
theorem find_first {κ : Type} [DecidableEq κ] {k : κ} {l : List κ} {j i : Nat} (h : find id k l = some j) (hi : i < l.length) (he : l[i] = k) (hno : ∀ x, x < i → ∀ h : x < l.length, l[x] ≠ k) : j = i := by
 induction l generalizing j i with
 | nil => simp at hi
 | cons a l ih =>
  unfold find at h
  cases i with
  | zero =>
   have : id a = k := by simpa using he
   rw [if_pos this] at h
   exact (Option.some.inj h).symm
  | succ i =>
   have hne : ¬ id a = k := hno 0 (by omega) (by simp)
   rw [if_neg hne] at h
   cases hf : find id k l with
   | none => rw [hf] at h; cases h
   | some j' =>
    rw [hf] at h
    have := ih hf (by simpa using hi) (by simpa using he) (fun x hx hxl => hno (x + 1) (by omega) (by simpa using hxl))
    have h2 : j' + 1 = j := by simpa using h
    omega
section
variable {wd : Nat} {rows : List (List Nat)} {accs : List Bool} {g : List Nat}
theorem rd_row {q : Nat} (hq : q < rows.length) : rd_L1 (rows.map ints) (q : Int) = ints rows[q] := by simp [rd_L1, List.getD_eq_getElem?_getD, hq]
theorem rd_int {l : List Nat} {i : Nat} (hi : i < l.length) : rd (ints l) (i : Int) = (l[i] : Int) := by
 rw [rd_nat _ _ (by rw [ints_length]; exact hi), ints_get _ _ _ hi]
theorem ilen (l : List Nat) : ((ints l).length : Int) = (l.length : Int) := by rw [ints_length]
theorem alike_ev (hcl : Closed wd rows accs) (hg : g.length = rows.length) (hwd : wd ≤ 30) {a b : Nat} (ha : a < rows.length) (hb : b < rows.length) (a0 a1 : Int) (l2 : List Bool) :
  Ev (fun k => spec_l01Alike.f k a0 a1 l2 (rows.map ints) (ints g) (a : Int) (b : Int)) (decide (rows[a].map (fun p => g.getD p 0) = rows[b].map (fun p => g.getD p 0))) := by
 have wa := hcl.wide _ (List.getElem_mem ha)
 have wb := hcl.wide _ (List.getElem_mem hb)
 have hp : ∀ q (hq : q < rows.length) c (hc : c < rows[q].length), rows[q][c] < g.length := fun q hq c hc => by rw [hg]; exact hcl.lt _ (List.getElem_mem hq) _ (List.getElem_mem hc)
 have key := ev_all (fun k i => spec_l01Alike.l0 k (ints g) (a : Int) (b : Int) i a0 a1 l2 (rows.map ints)) wd (fun c => decide (g.getD (rows[a].getD c 0) 0 = g.getD (rows[b].getD c 0) 0)) ?_ ?_ ?_
 ·have e : ((List.range wd).all fun c => decide (g.getD (rows[a].getD c 0) 0 = g.getD (rows[b].getD c 0) 0)) = decide (rows[a].map (fun p => g.getD p 0) = rows[b].map (fun p => g.getD p 0)) := by
   rw [Bool.eq_iff_iff, List.all_eq_true]
   simp only [List.mem_range, decide_eq_true_eq]
   constructor
   ·intro h
    apply List.ext_getElem (by rw [List.length_map, List.length_map, wa, wb])
    intro c h1 h2
    rw [List.length_map] at h1 h2
    have := h c (by omega)
    simpa [List.getD_eq_getElem?_getD, h1, h2] using this
   ·intro h c hc
    have h1 : c < rows[a].length := by omega
    have h2 : c < rows[b].length := by omega
    have := congrArg (fun l => l.getD c 0) h
    simpa [List.getD_eq_getElem?_getD, h1, h2] using this
  rw [e] at key
  exact key
 all_goals
  have hl : ((rows.map ints).length : Int) = (rows.length : Int) := by rw [List.length_map]
 ·refine ev_const (fun k => ?_)
  simp only [spec_l01Alike.l0]
  rw [if_pos (by omega), if_pos (by rw [hl]; omega), rd_row ha, if_neg (by rw [ilen, wa]; omega)]
 ·intro c hc hpc r h
  have h1 : c < rows[a].length := by omega
  have h2 : c < rows[b].length := by omega
  have q1 := hp a ha c h1
  have q2 := hp b hb c h2
  refine ev_step (fun k => ?_) h
  simp only [spec_l01Alike.l0]
  rw [if_pos (by omega), if_pos (by rw [hl]; omega), rd_row ha, if_pos (by rw [ilen, wa]; omega), if_pos (by omega), rd_int h1, if_pos (by omega), if_pos (by rw [ilen]; omega), if_pos (by omega), if_pos (by rw [hl]; omega), rd_row hb, if_pos (by rw [ilen, wb]; omega), rd_int h2, if_pos (by omega), if_pos (by rw [ilen]; omega), rd_int q1, rd_int q2, wrap_up (by omega)]
  have : g[rows[a][c]] = g[rows[b][c]] := by simpa [List.getD_eq_getElem?_getD, h1, h2, q1, q2] using hpc
  rw [if_pos (by rw [this])]
 ·intro c hc hpc
  have h1 : c < rows[a].length := by omega
  have h2 : c < rows[b].length := by omega
  have q1 := hp a ha c h1
  have q2 := hp b hb c h2
  refine ev_const (fun k => ?_)
  simp only [spec_l01Alike.l0]
  rw [if_pos (by omega), if_pos (by rw [hl]; omega), rd_row ha, if_pos (by rw [ilen, wa]; omega), if_pos (by omega), rd_int h1, if_pos (by omega), if_pos (by rw [ilen]; omega), if_pos (by omega), if_pos (by rw [hl]; omega), rd_row hb, if_pos (by rw [ilen, wb]; omega), rd_int h2, if_pos (by omega), if_pos (by rw [ilen]; omega), rd_int q1, rd_int q2]
  have : ¬ g[rows[a][c]] = g[rows[b][c]] := by simpa [List.getD_eq_getElem?_getD, h1, h2, q1, q2] using hpc
  rw [if_neg (by omega)]
theorem key_eq {a b : Nat} (ha : a < rows.length) (hb : b < rows.length) : Tdy.keyOf rows g a = Tdy.keyOf rows g b ↔ g.getD a 0 = g.getD b 0 ∧ rows[a].map (fun p => g.getD p 0) = rows[b].map (fun p => g.getD p 0) := by
 have e : ∀ q (hq : q < rows.length), rows.getD q [] = rows[q] := fun q hq => by simp [List.getD_eq_getElem?_getD, hq]
 unfold Tdy.keyOf
 rw [e a ha, e b hb, List.cons.injEq]
/-- One state's class is looked for among the first states. -/
theorem inner_ev (hcl : Closed wd rows accs) (hg : g.length = rows.length) (hwd : wd ≤ 30) (hn : rows.length ≤ 1000000) (a0 a1 : Int) (l2 : List Bool) (s : Nat) (hs : s < rows.length) (fs : List Nat) (hfs : ∀ q ∈ fs, q < rows.length) (hfl : fs.length ≤ rows.length) (out : List Int) (ho : out.length = rows.length) (r : List Int × Int)
  (hend : match find id (Tdy.keyOf rows g s) (fs.map (Tdy.keyOf rows g)) with
   | some j => Ev (fun k => spec_l01Finer.l0 k (ints g) (rows.length : Int) (out.set s (j : Int)) (ints fs) ((s : Int) + 1) a0 a1 l2 (rows.map ints)) r
   | none => Ev (fun k => spec_l01Finer.l0 k (ints g) (rows.length : Int) (out.set s (fs.length : Int)) (ints fs ++ [(s : Int)]) ((s : Int) + 1) a0 a1 l2 (rows.map ints)) r) :
  ∀ d i, d + i = fs.length → (∀ x, x < i → ∀ h : x < fs.length, Tdy.keyOf rows g fs[x] ≠ Tdy.keyOf rows g s) → Ev (fun k => spec_l01Finer.l1 k (ints g) (rows.length : Int) (out.set s (-1)) (ints fs) (s : Int) (i : Int) a0 a1 l2 (rows.map ints)) r := by
 have hol : ((out.set s (-1)).length : Int) = (rows.length : Int) := by rw [List.length_set, ho]
 have hso : rd (out.set s (-1)) (s : Int) = -1 := by rw [rd_nat _ _ (by rw [List.length_set, ho]; exact hs), List.getElem_set_self]
 intro d
 induction d with
 | zero =>
  intro i hi hno
  obtain rfl : i = fs.length := by omega
  have hf : find id (Tdy.keyOf rows g s) (fs.map (Tdy.keyOf rows g)) = none := by
   cases hf : find id (Tdy.keyOf rows g s) (fs.map (Tdy.keyOf rows g)) with
   | none => rfl
   | some j =>
    obtain ⟨hj, e⟩ := find_some hf
    rw [List.length_map] at hj
    exact absurd (by simpa using e) (hno j hj hj)
  rw [hf] at hend
  refine ev_step (f := fun k => spec_l01Finer.j2 k (ints g) (rows.length : Int) (out.set s (-1)) (ints fs) (s : Int) (fs.length : Int) false a0 a1 l2 (rows.map ints)) (fun k => ?_) (ev_step (fun k => ?_) hend)
  ·simp only [spec_l01Finer.l1]
   rw [if_neg (by rw [ilen]; omega)]
  ·simp only [spec_l01Finer.j2]
   rw [if_neg (by simp), if_pos (by omega), if_pos (by rw [hol]; omega), hso, if_pos (by omega), if_pos (by rw [ints_length]; omega), wrap_up (by omega), ints_length, Int.toNat_natCast, List.set_set]
 | succ d ih =>
  intro i hi hno
  have hif : i < fs.length := by omega
  have hqi := hfs _ (List.getElem_mem hif)
  have hgi : fs[i] < g.length := by omega
  have hgs : s < g.length := by omega
  have hcall := alike_ev hcl hg hwd hqi hs a0 a1 l2
  have step1 : ∀ k, spec_l01Finer.l1 (k + 1) (ints g) (rows.length : Int) (out.set s (-1)) (ints fs) (s : Int) (i : Int) a0 a1 l2 (rows.map ints) = spec_l01Finer.j2 k (ints g) (rows.length : Int) (out.set s (-1)) (ints fs) (s : Int) (i : Int) true a0 a1 l2 (rows.map ints) := fun k => by
   simp only [spec_l01Finer.l1]
   rw [if_pos (by rw [ilen]; omega), if_pos (by omega), if_pos (by rw [hol]; omega), hso]
   rfl
  refine ev_step step1 ?_
  by_cases hc : g.getD fs[i] 0 = g.getD s 0
  ·have hc2 : ((g[fs[i]] : Nat) : Int) = ((g[s] : Nat) : Int) := by
    have : g[fs[i]] = g[s] := by simpa [List.getD_eq_getElem?_getD, hgi, hgs] using hc
    rw [this]
   refine ev_step (f := fun k => (spec_l01Alike.f k a0 a1 l2 (rows.map ints) (ints g) (fs[i] : Int) (s : Int)).bind fun t => if t = true then (if (s : Int) < ((out.set s (-1)).length : Int) then (spec_l01Finer.l1 k (ints g) (rows.length : Int) ((out.set s (-1)).set (s : Int).toNat (i : Int)) (ints fs) (s : Int) (wrap64 ((i : Int) + 1)) a0 a1 l2 (rows.map ints)) else none) else (spec_l01Finer.l1 k (ints g) (rows.length : Int) (out.set s (-1)) (ints fs) (s : Int) (wrap64 ((i : Int) + 1)) a0 a1 l2 (rows.map ints))) (fun k => ?_) (Ev.bind hcall ?_)
   ·simp only [spec_l01Finer.j2]
    rw [if_pos trivial, if_pos (by omega), if_pos (by rw [ilen]; omega), rd_int hif, if_pos (by omega), if_pos (by rw [ilen]; omega), if_pos (by omega), if_pos (by rw [ilen]; omega), rd_int hgi, rd_int hgs, if_pos hc2]
   ·by_cases ht : rows[fs[i]].map (fun p => g.getD p 0) = rows[s].map (fun p => g.getD p 0)
    ·have hkey := (key_eq hqi hs).2 ⟨hc, ht⟩
     have hf : find id (Tdy.keyOf rows g s) (fs.map (Tdy.keyOf rows g)) = some i := by
      cases hf : find id (Tdy.keyOf rows g s) (fs.map (Tdy.keyOf rows g)) with
      | none => exact absurd hkey (find_none hf _ (List.mem_map.2 ⟨fs[i], List.getElem_mem hif, rfl⟩))
      | some j => exact congrArg some (find_first hf (by rw [List.length_map]; exact hif) (by simpa using hkey) (fun x hx hxl => by rw [List.length_map] at hxl; simpa using hno x hx hxl))
     rw [hf] at hend
     refine ev_ift (by simpa using ht) (ev_ift (by rw [hol]; omega) ?_)
     rw [Int.toNat_natCast, List.set_set, wrap_up (by omega)]
     have hol2 : ((out.set s (i : Int)).length : Int) = (rows.length : Int) := by rw [List.length_set, ho]
     have hso2 : rd (out.set s (i : Int)) (s : Int) = (i : Int) := by rw [rd_nat _ _ (by rw [List.length_set, ho]; exact hs), List.getElem_set_self]
     refine ev_step (f := fun k => spec_l01Finer.j2 k (ints g) (rows.length : Int) (out.set s (i : Int)) (ints fs) (s : Int) ((i : Int) + 1) false a0 a1 l2 (rows.map ints)) (fun k => ?_) (ev_step (fun k => ?_) hend)
     ·simp only [spec_l01Finer.l1]
      by_cases hlast : (i : Int) + 1 < ((ints fs).length : Int)
      ·rw [if_pos hlast, if_pos (by omega), if_pos (by rw [hol2]; omega), hso2]
       have : decide ((i : Int) < 0) = false := by simp
       rw [this]
      ·rw [if_neg hlast]
     ·simp only [spec_l01Finer.j2]
      rw [if_neg (by simp), if_pos (by omega), if_pos (by rw [hol2]; omega), hso2, if_neg (by omega), wrap_up (by omega)]
    ·refine ev_iff (by simpa using ht) ?_
     rw [wrap_up (by omega)]
     have := ih (i + 1) (by omega) (fun x hx hxl => by
      by_cases e : x = i
      ·subst e
       intro he
       exact ht ((key_eq hqi hs).1 he).2
      ·exact hno x (by omega) hxl)
     simpa using this
  ·have hc2 : ¬ ((g[fs[i]] : Nat) : Int) = ((g[s] : Nat) : Int) := by
    intro h
    apply hc
    have h2 : g[fs[i]] = g[s] := by omega
    simp [List.getD_eq_getElem?_getD, hgi, hgs, h2]
   refine ev_step (f := fun k => spec_l01Finer.l1 k (ints g) (rows.length : Int) (out.set s (-1)) (ints fs) (s : Int) ((i : Int) + 1) a0 a1 l2 (rows.map ints)) (fun k => ?_) ?_
   ·simp only [spec_l01Finer.j2]
    rw [if_pos trivial, if_pos (by omega), if_pos (by rw [ilen]; omega), rd_int hif, if_pos (by omega), if_pos (by rw [ilen]; omega), if_pos (by omega), if_pos (by rw [ilen]; omega), rd_int hgi, rd_int hgs, if_neg hc2, wrap_up (by omega)]
   ·have := ih (i + 1) (by omega) (fun x hx hxl => by
     by_cases e : x = i
     ·subst e
      intro he
      exact hc ((key_eq hqi hs).1 he).1
     ·exact hno x (by omega) hxl)
    simpa using this
theorem ints_app (l m : List Nat) : ints (l ++ m) = ints l ++ ints m := by simp [ints, GwI.ints]
theorem set_next (outs : List Nat) (n s j : Nat) (hl : outs.length = s) (hs : s < n) : (ints outs ++ List.replicate (n - s) 0).set s (j : Int) = ints (outs ++ [j]) ++ List.replicate (n - (s + 1)) 0 := by
 have e : n - s = (n - (s + 1)) + 1 := by omega
 rw [e, List.replicate_succ, List.set_append_right _ _ (by rw [ints_length]; omega), ints_length, hl, Nat.sub_self, List.set_cons_zero, ints_app, List.append_assoc]
 rfl
theorem outer_ev (hcl : Closed wd rows accs) (hg : g.length = rows.length) (hwd : wd ≤ 30) (hn : rows.length ≤ 1000000) (a0 a1 : Int) (l2 : List Bool) : ∀ (d s : Nat) (fs outs : List Nat), d + s = rows.length → outs.length = s → (∀ q ∈ fs, q < rows.length) → fs.length ≤ s →
  Ev (fun k => spec_l01Finer.l0 k (ints g) (rows.length : Int) (ints outs ++ List.replicate (rows.length - s) 0) (ints fs) (s : Int) a0 a1 l2 (rows.map ints)) (ints (outs ++ (number ((keys rows g).drop s) (fs.map (Tdy.keyOf rows g))).1), ((number ((keys rows g).drop s) (fs.map (Tdy.keyOf rows g))).2.length : Int)) := by
 have hkl : (keys rows g).length = rows.length := by simp [keys]
 intro d
 induction d with
 | zero =>
  intro s fs outs hd ho hf hl
  obtain rfl : s = rows.length := by omega
  rw [List.drop_of_length_le (by omega)]
  refine ev_const (fun k => ?_)
  simp only [spec_l01Finer.l0]
  rw [if_neg (by omega)]
  simp [number, ints_length]
 | succ d ih =>
  intro s fs outs hd ho hf hl
  have hs : s < rows.length := by omega
  have hdr : (keys rows g).drop s = Tdy.keyOf rows g s :: (keys rows g).drop (s + 1) := by
   rw [List.drop_eq_getElem_cons (by omega)]
   simp [keys]
  have hol : (ints outs ++ List.replicate (rows.length - s) (0 : Int)).length = rows.length := by rw [List.length_append, ints_length, List.length_replicate]; omega
  rw [hdr]
  refine ev_step (f := fun k => spec_l01Finer.l1 k (ints g) (rows.length : Int) ((ints outs ++ List.replicate (rows.length - s) 0).set s (-1)) (ints fs) (s : Int) ((0 : Nat) : Int) a0 a1 l2 (rows.map ints)) (fun k => ?_) ?_
  ·simp only [spec_l01Finer.l0]
   rw [if_pos (by omega), if_pos (by omega), if_pos (by rw [hol]; omega)]
   rfl
  ·refine inner_ev hcl hg hwd hn a0 a1 l2 s hs fs hf (by omega) _ hol _ ?_ fs.length 0 (by omega) (fun x hx => by omega)
   cases hfd : find id (Tdy.keyOf rows g s) (fs.map (Tdy.keyOf rows g)) with
   | some j =>
    have e : number (Tdy.keyOf rows g s :: (keys rows g).drop (s + 1)) (fs.map (Tdy.keyOf rows g)) = (j :: (number ((keys rows g).drop (s + 1)) (fs.map (Tdy.keyOf rows g))).1, (number ((keys rows g).drop (s + 1)) (fs.map (Tdy.keyOf rows g))).2) := by rw [number, hfd]
    have h := ih (s + 1) fs (outs ++ [j]) (by omega) (by simp; omega) hf (by omega)
    rw [e]
    simp only
    rw [set_next outs _ s j ho hs]
    have e2 : ((s + 1 : Nat) : Int) = (s : Int) + 1 := by omega
    rw [e2, List.append_assoc] at h
    exact h
   | none =>
    have e : number (Tdy.keyOf rows g s :: (keys rows g).drop (s + 1)) (fs.map (Tdy.keyOf rows g)) = (fs.length :: (number ((keys rows g).drop (s + 1)) (fs.map (Tdy.keyOf rows g) ++ [Tdy.keyOf rows g s])).1, (number ((keys rows g).drop (s + 1)) (fs.map (Tdy.keyOf rows g) ++ [Tdy.keyOf rows g s])).2) := by rw [number, hfd, List.length_map]
    have h := ih (s + 1) (fs ++ [s]) (outs ++ [fs.length]) (by omega) (by simp; omega) (fun q hq => (List.mem_append.1 hq).elim (hf q) (fun h => by rw [List.mem_singleton.1 h]; exact hs)) (by simp; omega)
    rw [e]
    simp only
    rw [set_next outs _ s fs.length ho hs]
    have e2 : ((s + 1 : Nat) : Int) = (s : Int) + 1 := by omega
    rw [e2, List.append_assoc, List.map_append, ints_app fs [s]] at h
    exact h
theorem finer_ev (hcl : Closed wd rows accs) (hg : g.length = rows.length) (hwd : wd ≤ 30) (hn : rows.length ≤ 1000000) (a0 a1 : Int) (l2 : List Bool) :
  Ev (fun k => spec_l01Finer.f k a0 a1 l2 (rows.map ints) (ints g)) (ints (number (keys rows g) []).1, ((number (keys rows g) []).2.length : Int)) := by
 have h := outer_ev hcl hg hwd hn a0 a1 l2 rows.length 0 [] [] (by omega) rfl (fun q hq => by cases hq) (Nat.le_refl _)
 refine Ev.congr (fun k => ?_) h
 unfold spec_l01Finer.f
 rw [if_pos (by omega), if_pos (by rw [ints_length]; omega), ints_length, hg, Int.toNat_natCast]
 rfl
end
end Go.Proofs.YtbamnonamdpooaaDoor.Tf
namespace Go.Proofs.YtbamnonamdpooaaDoor.Mk
set_option linter.unusedVariables false
set_option linter.unusedSimpArgs false
open Go.RowKit Go.Proofs.YtbamnonamdpooaaDoorW.PrintWords Go.Proofs.YtbamnonamdpooaaDoorW.PrintLast Go.Proofs.YtbamnonamdpooaaDoorW.PrintMore Kp Mg
abbrev Row : Kd (List Int) := Kd.slice 2 (Kd.int .i64)
/-- W is w but for blocks in S, all of them from n on, and what is new. -/
structure KeepS (n : Nat) (w W : World) (S : Nat → Prop) : Prop where
 le : n ≤ w.heap.size
 bel : Below n w W
 blk : ∀ k, k < w.heap.size → ¬ S k → W.heap[k]? = w.heap[k]?
section
variable {n : Nat} {w W W' : World} {S S' : Nat → Prop}
theorem KeepS.refl (w : World) (S : Nat → Prop) (h : n ≤ w.heap.size) : KeepS n w w S := ⟨h, Below.refl _ _, fun _ _ _ => rfl⟩
theorem KeepS.size (h : KeepS n w W S) : w.heap.size ≤ W.heap.size := Below.size h.bel
theorem KeepS.below (h : KeepS n w W S) (hb : Below W.heap.size W W') : KeepS n w W' S := ⟨h.le, h.bel.trans (hb.mono (Nat.le_trans h.le h.size)), fun k hk hs => (hb.block k (Nat.lt_of_lt_of_le hk h.size)).trans (h.blk k hk hs)⟩
theorem KeepS.trans {n' : Nat} (h : KeepS n w W S) (h' : KeepS n' W W' S') (hn : n ≤ n') (hs : ∀ k, S' k → S k ∨ w.heap.size ≤ k) : KeepS n w W' S :=
 ⟨h.le, h.bel.trans (h'.bel.mono hn), fun k hk hn => (h'.blk k (Nat.lt_of_lt_of_le hk h.size) (fun h2 => (hs k h2).elim hn (fun h3 => by omega))).trans (h.blk k hk hn)⟩
theorem KeepS.set (h : KeepS n w W S) {p : Addr} (hp : S p.block) (hq : n ≤ p.block) (u : Value) : KeepS n w (W.setCell p u) S :=
 ⟨h.le, h.bel.setCell hq u, fun k hk hn => (Below.heap_setCell W p u k (fun e => hn (by rw [e]; exact hp))).trans (h.blk k hk hn)⟩
theorem KeepS.mono (h : KeepS n w W S) (hs : ∀ k, S k → S' k) : KeepS n w W S' := ⟨h.le, h.bel, fun k hk hn => h.blk k hk (fun h2 => hn (hs k h2))⟩
end
/-! ### the marks -/
def mB (k n : Nat) : List Bool := (List.range n).map fun i => decide ((k + i) % 3 = 0)
def mN (k n : Nat) : List Int := (List.range n).map fun i => ((k + i : Nat) : Int)
theorem mB_length (k n : Nat) : (mB k n).length = n := by simp [mB]
theorem mN_length (k n : Nat) : (mN k n).length = n := by simp [mN]
theorem part {α : Type} (f : Nat → α) {n i : Nat} (xs : List α) (hl : xs.length = n) (hi : i < n) : ((List.range i).map f ++ xs.drop i).set i (f i) = (List.range (i + 1)).map f ++ xs.drop (i + 1) := by
 have e : xs.drop i = xs[i]'(by omega) :: xs.drop (i + 1) := List.drop_eq_getElem_cons (by omega)
 rw [e, List.set_append_right _ _ (by simp), List.length_map, List.length_range, Nat.sub_self, List.set_cons_zero, List.range_succ, List.map_append, List.append_assoc]
 rfl
def tot (l : List (List Int)) : Nat := (l.map List.length).sum
def mR (k : Nat) : List (List Int) → List (List Int)
 | [] => []
 | r :: l => mN k r.length :: mR (k + r.length) l
theorem mR_length (k : Nat) (l : List (List Int)) : (mR k l).length = l.length := by
 induction l generalizing k with
 | nil => rfl
 | cons r l ih => rw [mR, List.length_cons, List.length_cons, ih]
theorem tot_cons (r : List Int) (l : List (List Int)) : tot (r :: l) = r.length + tot l := by simp [tot]
theorem tot_append (a b : List (List Int)) : tot (a ++ b) = tot a + tot b := by unfold tot; rw [List.map_append, List.sum_append]
theorem tot_one (r : List Int) : tot [r] = r.length := by simp [tot]
theorem tot_take {l : List (List Int)} {i : Nat} (h : i < l.length) : tot (l.take (i + 1)) = tot (l.take i) + l[i].length := by
 rw [List.take_succ_eq_append_getElem h, tot_append, tot_one]
theorem tot_le (l : List (List Int)) (i : Nat) : tot (l.take i) ≤ tot l := by
 have : tot l = tot (l.take i) + tot (l.drop i) := by rw [← tot_append, List.take_append_drop]
 omega
theorem mR_snoc (k : Nat) (l : List (List Int)) (r : List Int) : mR k (l ++ [r]) = mR k l ++ [mN (k + tot l) r.length] := by
 induction l generalizing k with
 | nil => simp [mR, tot]
 | cons a l ih => rw [List.cons_append, mR, ih, mR, tot_cons, Nat.add_assoc]; rfl
theorem mR_step (k : Nat) {l : List (List Int)} {i : Nat} (h : i < l.length) : (mR k (l.take i) ++ l.drop i).set i (mN (k + tot (l.take i)) l[i].length) = mR k (l.take (i + 1)) ++ l.drop (i + 1) := by
 have e : l.drop i = l[i] :: l.drop (i + 1) := List.drop_eq_getElem_cons h
 rw [e, List.set_append_right _ _ (by rw [mR_length, List.length_take]; omega), mR_length, List.length_take, Nat.min_eq_left (by omega), Nat.sub_self, List.set_cons_zero, List.take_succ_eq_append_getElem h, mR_snoc, List.append_assoc]
 rfl
theorem mR_get (k : Nat) {l : List (List Int)} {i : Nat} (h : i < l.length) : (mR k l)[i]'(by rw [mR_length]; exact h) = mN (k + tot (l.take i)) l[i].length := by
 induction l generalizing k i with
 | nil => simp at h
 | cons r l ih =>
  cases i with
  | zero => simp [mR, tot]
  | succ i =>
   have := ih (k + r.length) (i := i) (by simpa using h)
   simp only [mR, List.getElem_cons_succ, List.take_succ_cons, tot_cons]
   rw [this, Nat.add_assoc]
/-! ### they are put -/
set_option maxHeartbeats 2000000 in
set_option maxRecDepth 100000 in
theorem markB (k : Nat) (A : Option Addr) (c : Nat) (xs : List Bool) (w : World) (base : Nat) (ok : Nat → Prop) (hle : base ≤ w.heap.size) (h : Kd.R Kd.bool 4 w base ok (.slice A xs.length c) xs) (hk : k + xs.length ≤ 1000000000) :
  Calls Tryd.prog 73 #[.slice A xs.length c, .int .i64 (k : Int)] w fun e w' => e = .returned (.int .i64 ((k + xs.length : Nat) : Int)) ∧ Kd.R Kd.bool 4 w' base ok (.slice A xs.length c) (mB k xs.length) ∧ KeepS base w w' (fun b => some b = (Value.slice A xs.length c).ownBlock) := by
 have h0 := Aside0.mk h
 clear h
 go_enter Tryd.func73, Tryd.ntmps73
 go_wp2_with fail
 go_loopg [1, 5] xs.length (fun kq v1 v5 W => ∃ i : Nat, v1 = .int .i64 ((k + i : Nat) : Int) ∧ v5 = .int .i64 (i : Int) ∧ Aside0 (kq = xs.length - i) ∧ i ≤ xs.length ∧ Aside0 (Kd.R Kd.bool 4 W base ok (.slice A xs.length c) ((List.range i).map (fun j => decide ((k + j) % 3 = 0)) ++ xs.drop i)) ∧ Aside0 (KeepS base w W (fun b => some b = (Value.slice A xs.length c).ownBlock)))
 case atStart => exact ⟨0, rfl, rfl, ⟨rfl⟩, Nat.zero_le _, ⟨by simpa using h0.out⟩, ⟨KeepS.refl _ _ hle⟩⟩
 case round =>
  obtain ⟨i, rfl, rfl, hq, hil, hR, hK⟩ := hrel
  by_cases hi : i < xs.length
  ·have hi1 : ((i : Int) < (xs.length : Int)) = True := eq_true (by omega)
   have h0i : (0 ≤ (i : Int)) = True := eq_true (by omega)
   have hl : ((List.range i).map (fun j => decide ((k + j) % 3 = 0)) ++ xs.drop i).length = xs.length := by simp; omega
   obtain ⟨g, cg, hv, hgb, _, cells, hcg⟩ := Kd.R_form hR.out (by omega)
   obtain ⟨rfl, rfl⟩ : A = some ⟨g, 0, none⟩ ∧ c = cg := by
    simp only [Value.slice.injEq] at hv
    exact ⟨hv.1, hv.2.2⟩
   have f1 : wr.frozen? ⟨g, i, none⟩ = false := blk_frozen hcg i
   obtain ⟨ad, e1, k1⟩ := at_mark (Kd.R_reads' hR.out).2.2 i (by omega)
   cases e1
   have ea : (⟨g, 0, none⟩ : Addr).add i = ⟨g, i, none⟩ := by
    by_cases h0 : i = 0
    ·subst h0; rfl
    ·simp [Addr.add, h0]
   rw [ea] at k1
   have hm : Int.tmod ((k + i : Nat) : Int) 3 = (((k + i) % 3 : Nat) : Int) := rfl
   have hR2 := Kd.R_putn hR.out (i : Int) (decide ((k + i) % 3 = 0))
   rw [Int.toNat_natCast, part (fun j => decide ((k + j) % 3 = 0)) xs rfl hi] at hR2
   have hK2 := Aside0.mk (hK.out.set (p := ⟨g, i, none⟩) (by simp [Value.ownBlock]) hgb (.bool (decide ((k + i) % 3 = 0))))
   have hR3 := Aside0.mk hR2
   have hz : decide ((((k + i) % 3 : Nat) : Int) = 0) = decide ((k + i) % 3 = 0) := by rw [decide_eq_decide]; omega
   have hz3 : (((k : Int) + (i : Int)) % 3 == 0) = decide ((k + i) % 3 = 0) := by
    rw [← Int.natCast_add]
    exact hz
   have hkw : wrap64 (((k + i : Nat) : Int) + 1) = ((k + (i + 1) : Nat) : Int) := by unfold wrap64; omega
   obtain ⟨ob, k2⟩ : ∃ x, wr.cell? ⟨g, i, none⟩ = some x := ⟨_, k1⟩
   clear k1 hR2 hcg cells hv hl ea
   generalize decide ((k + i) % 3 = 0) = mb at *
   go_wp2_with fail
   go_roundg (xs.length - (i + 1))
   case measure => have := hq.out; omega
   case rel => exact ⟨i + 1, (by first | rfl | (rw [← hkw]; rfl)), (by go_num), ⟨by simp⟩, by omega, hR3, hK2⟩
  ·have hi1 : ((i : Int) < (xs.length : Int)) = False := eq_false (by omega)
   have he : i = xs.length := by omega
   subst he
   have hR2 := hR.out
   rw [List.drop_length, List.append_nil] at hR2
   go_wp2_with fail
   go_ret
   exact ⟨rfl, hR2, hK.out⟩
set_option maxHeartbeats 2000000 in
set_option maxRecDepth 100000 in
theorem markN (k : Nat) (A : Option Addr) (c : Nat) (xs : List Int) (w : World) (base : Nat) (ok : Nat → Prop) (hle : base ≤ w.heap.size) (h : Kd.R (Kd.int .i64) 2 w base ok (.slice A xs.length c) xs) (hk : k + xs.length ≤ 1000000000) :
  Calls Tryd.prog 129 #[.slice A xs.length c, .int .i64 (k : Int)] w fun e w' => e = .returned (.int .i64 ((k + xs.length : Nat) : Int)) ∧ Kd.R (Kd.int .i64) 2 w' base ok (.slice A xs.length c) (mN k xs.length) ∧ KeepS base w w' (fun b => some b = (Value.slice A xs.length c).ownBlock) := by
 have h0 := Aside0.mk h
 clear h
 go_enter Tryd.func129, Tryd.ntmps129
 go_wp2_with fail
 go_loopg [1, 5] xs.length (fun kq v1 v5 W => ∃ i : Nat, v1 = .int .i64 ((k + i : Nat) : Int) ∧ v5 = .int .i64 (i : Int) ∧ Aside0 (kq = xs.length - i) ∧ i ≤ xs.length ∧ Aside0 (Kd.R (Kd.int .i64) 2 W base ok (.slice A xs.length c) ((List.range i).map (fun j => ((k + j : Nat) : Int)) ++ xs.drop i)) ∧ Aside0 (KeepS base w W (fun b => some b = (Value.slice A xs.length c).ownBlock)))
 case atStart => exact ⟨0, rfl, rfl, ⟨rfl⟩, Nat.zero_le _, ⟨by simpa using h0.out⟩, ⟨KeepS.refl _ _ hle⟩⟩
 case round =>
  obtain ⟨i, rfl, rfl, hq, hil, hR, hK⟩ := hrel
  by_cases hi : i < xs.length
  ·have hi1 : ((i : Int) < (xs.length : Int)) = True := eq_true (by omega)
   have h0i : (0 ≤ (i : Int)) = True := eq_true (by omega)
   have hl : ((List.range i).map (fun j => ((k + j : Nat) : Int)) ++ xs.drop i).length = xs.length := by simp; omega
   obtain ⟨g, cg, hv, hgb, _, cells, hcg⟩ := Kd.R_form hR.out (by omega)
   obtain ⟨rfl, rfl⟩ : A = some ⟨g, 0, none⟩ ∧ c = cg := by
    simp only [Value.slice.injEq] at hv
    exact ⟨hv.1, hv.2.2⟩
   have f1 : wr.frozen? ⟨g, i, none⟩ = false := blk_frozen hcg i
   obtain ⟨ad, e1, k1⟩ := at_num (Kd.R_reads' hR.out).2.2 i (by omega)
   cases e1
   have ea : (⟨g, 0, none⟩ : Addr).add i = ⟨g, i, none⟩ := by
    by_cases h0 : i = 0
    ·subst h0; rfl
    ·simp [Addr.add, h0]
   rw [ea] at k1
   have hR2 := Kd.R_putn hR.out (i : Int) ((k + i : Nat) : Int)
   rw [Int.toNat_natCast, part (fun j => ((k + j : Nat) : Int)) xs rfl hi] at hR2
   have hK2 := Aside0.mk (hK.out.set (p := ⟨g, i, none⟩) (by simp [Value.ownBlock]) hgb (.int .i64 ((k + i : Nat) : Int)))
   have hR3 := Aside0.mk hR2
   have hkw : wrap64 (((k + i : Nat) : Int) + 1) = ((k + (i + 1) : Nat) : Int) := by unfold wrap64; omega
   obtain ⟨ob, k2⟩ : ∃ x, wr.cell? ⟨g, i, none⟩ = some x := ⟨_, k1⟩
   clear k1 hR2 hcg cells hv hl ea
   go_wp2_with fail
   go_roundg (xs.length - (i + 1))
   case measure => have := hq.out; omega
   case rel => exact ⟨i + 1, (by first | rfl | (rw [← hkw]; rfl)), (by go_num), ⟨by simp⟩, by omega, hR3, hK2⟩
  ·have hi1 : ((i : Int) < (xs.length : Int)) = False := eq_false (by omega)
   have he : i = xs.length := by omega
   subst he
   have hR2 := hR.out
   rw [List.drop_length, List.append_nil] at hR2
   go_wp2_with fail
   go_ret
   exact ⟨rfl, hR2, hK.out⟩
theorem row_in {w W : World} {base : Nat} {ok : Nat → Prop} {A : Option Addr} {n c i : Nat} {ys : List (List Int)} (h : Kd.S Row 86 w base ok (.slice A n c) ys) (hi : i < ys.length) :
  ∃ (ad : Addr) (oki : Nat → Prop) (A' : Option Addr) (c' : Nat), A = some ad ∧ w.cell? (ad.add i) = some (.slice A' ys[i].length c') ∧ Kd.R (Kd.int .i64) 2 w base oki (.slice A' ys[i].length c') ys[i] ∧ (∀ k, oki k → ok k) ∧
   ∀ (W : World) (r : List Int), KeepS base w W oki → r.length = ys[i].length → Kd.R (Kd.int .i64) 2 W base oki (.slice A' ys[i].length c') r → Kd.S Row 86 W base ok (.slice A n c) (ys.set i r) := by
 obtain ⟨g, cg, hv, _, _, cells, hcg⟩ := Kd.S_form h (by omega)
 obtain ⟨rfl, rfl, rfl⟩ : A = some ⟨g, 0, none⟩ ∧ n = ys.length ∧ c = cg := by
  simp only [Value.slice.injEq] at hv
  exact ⟨hv.1, by omega, hv.2.2⟩
 obtain ⟨oki, ce, hcl, hM, hcc, hoki, hH⟩ := Kd.S_lend h [] (i : Int) (by omega) (by omega)
 obtain ⟨ve, rfl, hR⟩ := hM
 have hc0 := hcc 0 _ rfl
 have es : Row.sz = 1 := rfl
 have ex : ys.getD (i : Int).toNat [] = ys[i] := by simp [List.getD_eq_getElem?_getD, hi]
 rw [ex] at hR
 simp only [es, Nat.mul_one, Nat.add_zero, Int.toNat_natCast] at hc0
 obtain ⟨A', c', rfl⟩ := Kd.R_slice hR
 have ea : (⟨g, 0, none⟩ : Addr).add i = ⟨g, i, none⟩ := by
  by_cases h0 : i = 0
  ·subst h0; rfl
  ·simp [Addr.add, h0]
 refine ⟨_, oki, A', c', rfl, by rw [ea]; exact hc0, hR, fun k hk => (hoki k hk).1, fun W r hK hrl hR' => ?_⟩
 have := Kd.H_back (Kd.H_step hH (fun k _ hn hlt => hK.blk k hlt hn)) (x' := r) (okp := oki) ⟨_, rfl, hR'⟩ (fun _ hk => hk)
 rwa [Int.toNat_natCast] at this
set_option maxHeartbeats 2000000 in
set_option maxRecDepth 100000 in
theorem markR (k : Nat) (A : Option Addr) (c : Nat) (xs : List (List Int)) (w : World) (base : Nat) (ok : Nat → Prop) (hle : base ≤ w.heap.size) (h : Kd.S Row 86 w base ok (.slice A xs.length c) xs) (hl0 : xs.length ≤ 2000000) (hk : k + tot xs ≤ 1000000000) :
  Calls Tryd.prog 76 #[.slice A xs.length c, .int .i64 (k : Int)] w fun e w' => e = .returned (.int .i64 ((k + tot xs : Nat) : Int)) ∧ Kd.S Row 86 w' base ok (.slice A xs.length c) (mR k xs) ∧ KeepS base w w' ok := by
 have h0 := Aside0.mk h
 clear h
 go_enter Tryd.func76, Tryd.ntmps76
 go_wp2_with fail
 go_loopg [1, 5] xs.length (fun kq v1 v5 W => ∃ i : Nat, v1 = .int .i64 ((k + tot (xs.take i) : Nat) : Int) ∧ v5 = .int .i64 (i : Int) ∧ Aside0 (kq = xs.length - i) ∧ i ≤ xs.length ∧ Aside0 (Kd.S Row 86 W base ok (.slice A xs.length c) (mR k (xs.take i) ++ xs.drop i)) ∧ Aside0 (KeepS base w W ok))
 case atStart => exact ⟨0, rfl, rfl, ⟨rfl⟩, Nat.zero_le _, ⟨by simpa [mR] using h0.out⟩, ⟨KeepS.refl _ _ hle⟩⟩
 case round =>
  obtain ⟨i, rfl, rfl, hq, hil, hR, hK⟩ := hrel
  by_cases hi : i < xs.length
  ·have hi1 : ((i : Int) < (xs.length : Int)) = True := eq_true (by omega)
   have h0i : (0 ≤ (i : Int)) = True := eq_true (by omega)
   have hlm : (mR k (xs.take i)).length = i := by rw [mR_length, List.length_take]; omega
   have hl : (mR k (xs.take i) ++ xs.drop i).length = xs.length := by rw [List.length_append, hlm, List.length_drop]; omega
   have eg : (mR k (xs.take i) ++ xs.drop i)[i]'(by omega) = xs[i] := by
    rw [List.getElem_append_right (by omega), List.getElem_drop]
    congr 1
    omega
   obtain ⟨ad, oki, A', c', rfl, e1, hRi, hoki, hback⟩ := row_in (W := wr) hR.out (i := i) (by omega)
   rw [eg] at e1 hRi hback
   have hst := mR_step k hi
   have ht1 := tot_take hi
   have ht2 := tot_le xs (i + 1)
   obtain ⟨T, hT⟩ : ∃ T, k + tot (xs.take i) = T := ⟨_, rfl⟩
   obtain ⟨r, hr⟩ : ∃ r, xs[i] = r := ⟨_, rfl⟩
   rw [hT, hr] at hst
   have hT2 : k + tot (xs.take (i + 1)) = T + r.length := by rw [ht1, hr]; omega
   have hTl : T + r.length ≤ 1000000000 := by omega
   have hTq := Aside0.mk hT2
   rw [hr] at e1 hRi hback
   have hst2 := Aside0.mk hst
   have hRq := Aside0.mk hRi
   have hbq := Aside0.mk hback
   clear hst ht1 ht2 hr hlm hl eg hT2 hRi hback
   rw [hT]
   clear hT
   go_wp2_with (go_at_call 129; go_loud (
    with_reducible refine (markN T A' c' r wr base oki (Nat.le_trans hle hK.out.size) hRq.out hTl).mono ?_
    rintro e w5 ⟨rfl, hR5, hK5⟩
    have hS5 := Aside0.mk (hbq.out w5 _ (hK5.mono (fun b hb => hR5.1 b hb.symm)) (mN_length _ _) hR5)
    have hK6 := Aside0.mk (hK.out.trans (hK5.mono (fun b hb => hR5.1 b hb.symm)) (Nat.le_refl _) (fun b hb => .inl (hoki b hb)))))
   go_roundg (xs.length - (i + 1))
   case measure => have := hq.out; omega
   case rel => exact ⟨i + 1, (by have := hTq.out; congr 1; omega), (by go_num), ⟨by simp⟩, by omega, ⟨by rw [← hst2.out]; exact hS5.out⟩, hK6⟩
  ·have hi1 : ((i : Int) < (xs.length : Int)) = False := eq_false (by omega)
   have he : i = xs.length := by omega
   subst he
   have hR2 := hR.out
   rw [List.drop_length, List.append_nil, List.take_length] at hR2
   rw [List.take_length]
   go_wp2_with fail
   go_ret
   exact ⟨rfl, hR2, hK.out⟩
/-! ### they are found -/
set_option maxHeartbeats 2000000 in
theorem heldB (k n : Nat) (A : Option Addr) (c : Nat) (w : World) (h : Kd.C Kd.bool w A n (mB k n)) (hk : k + n ≤ 1000000000) :
  Calls Tryd.prog 77 #[.slice A n c, .int .i64 (k : Int)] w fun e w' => e = .returned (.int .i64 ((k + n : Nat) : Int)) ∧ Below w.heap.size w w' := by
 go_enter Tryd.func77, Tryd.ntmps77
 go_wp2_with fail
 go_loopg [1, 5] n (fun kq v1 v5 W => ∃ i : Nat, v1 = .int .i64 ((k + i : Nat) : Int) ∧ v5 = .int .i64 (i : Int) ∧ Aside0 (kq = n - i) ∧ i ≤ n ∧ Aside0 (Below w.heap.size w W))
 case atStart => exact ⟨0, rfl, rfl, ⟨rfl⟩, Nat.zero_le _, ⟨Below.refl _ _⟩⟩
 case round =>
  obtain ⟨i, rfl, rfl, hq, hil, hB⟩ := hrel
  by_cases hi : i < n
  ·have hi1 : ((i : Int) < (n : Int)) = True := eq_true (by omega)
   have h0i : (0 ≤ (i : Int)) = True := eq_true (by omega)
   obtain ⟨ad, rfl, k1⟩ := at_mark (Kd.C_below h hB.out) i (by rw [mB_length]; exact hi)
   have eg : (mB k n)[i]'(by rw [mB_length]; exact hi) = decide ((k + i) % 3 = 0) := by simp [mB]
   rw [eg] at k1
   have hm : Int.tmod ((k + i : Nat) : Int) 3 = (((k + i) % 3 : Nat) : Int) := rfl
   have hz : decide ((((k + i) % 3 : Nat) : Int) = 0) = decide ((k + i) % 3 = 0) := by rw [decide_eq_decide]; omega
   have hz3 : (((k : Int) + (i : Int)) % 3 == 0) = decide ((k + i) % 3 = 0) := by
    rw [← Int.natCast_add]
    exact hz
   have hkw : wrap64 (((k + i : Nat) : Int) + 1) = ((k + (i + 1) : Nat) : Int) := by unfold wrap64; omega
   have hB2 := Aside0.mk hB.out
   clear eg
   generalize decide ((k + i) % 3 = 0) = mb at *
   have hmb : (mb != mb) = false := by cases mb <;> rfl
   have hmb3 : ((!mb) == mb) = false := by cases mb <;> rfl
   go_wp2_with fail
   go_roundg (n - (i + 1))
   case measure => have := hq.out; omega
   case rel => exact ⟨i + 1, (by first | rfl | (rw [← hkw]; rfl)), (by go_num), ⟨by simp⟩, by omega, hB2⟩
  ·have hi1 : ((i : Int) < (n : Int)) = False := eq_false (by omega)
   have he : i = n := by omega
   subst he
   go_wp2_with fail
   go_ret
   exact ⟨rfl, hB.out⟩
set_option maxHeartbeats 2000000 in
theorem heldN (k n : Nat) (A : Option Addr) (c : Nat) (w : World) (h : Kd.C (Kd.int .i64) w A n (mN k n)) (hk : k + n ≤ 1000000000) :
  Calls Tryd.prog 130 #[.slice A n c, .int .i64 (k : Int)] w fun e w' => e = .returned (.int .i64 ((k + n : Nat) : Int)) ∧ Below w.heap.size w w' := by
 go_enter Tryd.func130, Tryd.ntmps130
 go_wp2_with fail
 go_loopg [1, 5] n (fun kq v1 v5 W => ∃ i : Nat, v1 = .int .i64 ((k + i : Nat) : Int) ∧ v5 = .int .i64 (i : Int) ∧ Aside0 (kq = n - i) ∧ i ≤ n ∧ Aside0 (Below w.heap.size w W))
 case atStart => exact ⟨0, rfl, rfl, ⟨rfl⟩, Nat.zero_le _, ⟨Below.refl _ _⟩⟩
 case round =>
  obtain ⟨i, rfl, rfl, hq, hil, hB⟩ := hrel
  by_cases hi : i < n
  ·have hi1 : ((i : Int) < (n : Int)) = True := eq_true (by omega)
   have h0i : (0 ≤ (i : Int)) = True := eq_true (by omega)
   obtain ⟨ad, rfl, k1⟩ := at_num (Kd.C_below h hB.out) i (by rw [mN_length]; exact hi)
   have eg : (mN k n)[i]'(by rw [mN_length]; exact hi) = ((k + i : Nat) : Int) := by simp [mN]
   rw [eg] at k1
   have hkw : wrap64 (((k + i : Nat) : Int) + 1) = ((k + (i + 1) : Nat) : Int) := by unfold wrap64; omega
   have hB2 := Aside0.mk hB.out
   clear eg
   go_wp2_with fail
   go_roundg (n - (i + 1))
   case measure => have := hq.out; omega
   case rel => exact ⟨i + 1, (by first | rfl | (rw [← hkw]; rfl)), (by go_num), ⟨by simp⟩, by omega, hB2⟩
  ·have hi1 : ((i : Int) < (n : Int)) = False := eq_false (by omega)
   have he : i = n := by omega
   subst he
   go_wp2_with fail
   go_ret
   exact ⟨rfl, hB.out⟩
set_option maxHeartbeats 2000000 in
theorem heldR (k : Nat) (A : Option Addr) (c : Nat) (xs : List (List Int)) (w : World) (h : Kd.C Row w A xs.length (mR k xs)) (hl0 : xs.length ≤ 2000000) (hk : k + tot xs ≤ 1000000000) :
  Calls Tryd.prog 78 #[.slice A xs.length c, .int .i64 (k : Int)] w fun e w' => e = .returned (.int .i64 ((k + tot xs : Nat) : Int)) ∧ Below w.heap.size w w' := by
 go_enter Tryd.func78, Tryd.ntmps78
 go_wp2_with fail
 go_loopg [1, 5] xs.length (fun kq v1 v5 W => ∃ i : Nat, v1 = .int .i64 ((k + tot (xs.take i) : Nat) : Int) ∧ v5 = .int .i64 (i : Int) ∧ Aside0 (kq = xs.length - i) ∧ i ≤ xs.length ∧ Aside0 (Below w.heap.size w W))
 case atStart => exact ⟨0, rfl, rfl, ⟨rfl⟩, Nat.zero_le _, ⟨Below.refl _ _⟩⟩
 case round =>
  obtain ⟨i, rfl, rfl, hq, hil, hB⟩ := hrel
  by_cases hi : i < xs.length
  ·have hi1 : ((i : Int) < (xs.length : Int)) = True := eq_true (by omega)
   have h0i : (0 ≤ (i : Int)) = True := eq_true (by omega)
   obtain ⟨ad, rfl, A9, c9, e9, hl9, hC9⟩ := at_row (Kd.C_below h hB.out) i (by rw [mR_length]; exact hi)
   rw [mR_get k hi] at e9 hC9
   rw [mN_length] at e9 hC9
   have ht1 := tot_take hi
   have ht2 := tot_le xs (i + 1)
   obtain ⟨T, hT⟩ : ∃ T, k + tot (xs.take i) = T := ⟨_, rfl⟩
   obtain ⟨m, hm⟩ : ∃ m, xs[i].length = m := ⟨_, rfl⟩
   have hT2 : k + tot (xs.take (i + 1)) = T + m := by rw [ht1, hm]; omega
   have hTl : T + m ≤ 1000000000 := by omega
   have hTq := Aside0.mk hT2
   rw [hT, hm] at hC9
   rw [hm] at e9
   have hB2 := Aside0.mk hB.out
   have hCq := Aside0.mk hC9
   have h0T : ((((T + m : Nat) : Int)) < 0) = False := eq_false (by omega)
   clear ht1 ht2 hm hT2 hl9 hC9
   rw [hT]
   clear hT
   go_wp2_with (go_at_call 130; go_loud (
    with_reducible refine (heldN T m A9 c9 wr hCq.out hTl).mono ?_
    rintro e w5 ⟨rfl, hb5⟩
    have hB5 := Aside0.mk (below_step hB2.out hb5)))
   go_roundg (xs.length - (i + 1))
   case measure => have := hq.out; omega
   case rel => exact ⟨i + 1, (by have := hTq.out; congr 1; omega), (by go_num), ⟨by simp⟩, by omega, hB5⟩
  ·have hi1 : ((i : Int) < (xs.length : Int)) = False := eq_false (by omega)
   have he : i = xs.length := by omega
   subst he
   rw [List.take_length]
   go_wp2_with fail
   go_ret
   exact ⟨rfl, hB.out⟩
/-! ### a relation -/
/-- A relation whose rows are its own. -/
structure Rel (w : World) (base : Nat) (ok : Nat → Prop) (A2 : Option Addr) (c2 : Nat) (a : List Bool) (A3 : Option Addr) (c3 : Nat) (b : List (List Int)) : Prop where
 r2 : Kd.R Kd.bool 4 w base ok (.slice A2 a.length c2) a
 r3 : Kd.S Row 86 w base ok (.slice A3 b.length c3) b
section
variable {w W : World} {base : Nat} {ok : Nat → Prop} {A2 A3 : Option Addr} {c2 c3 : Nat} {a : List Bool} {b : List (List Int)}
theorem Rel.step (h : Rel w base ok A2 c2 a A3 c3 b) (hm : ∀ k, ok k → k < w.heap.size → W.heap[k]? = w.heap[k]?) : Rel W base ok A2 c2 a A3 c3 b := ⟨Kd.R_step h.r2 hm, Kd.S_step h.r3 hm⟩
theorem Rel.below (h : Rel w base ok A2 c2 a A3 c3 b) (hb : Below w.heap.size w W) : Rel W base ok A2 c2 a A3 c3 b := h.step (fun k _ hk => hb.block k hk)
theorem Rel.bound (h : Rel w base ok A2 c2 a A3 c3 b) : Rel w base (fun k => ok k ∧ base ≤ k ∧ k < w.heap.size) A2 c2 a A3 c3 b :=
 ⟨Kd.R_mono (Kd.R_bound h.r2) (fun k hk => ⟨hk.1, hk.2.1, hk.2.2.1⟩), Kd.S_mono (Kd.S_bound h.r3) (fun k hk => ⟨hk.1, hk.2.1, hk.2.2.1⟩)⟩
theorem Rel.mono {ok' : Nat → Prop} (h : Rel w base ok A2 c2 a A3 c3 b) (hk : ∀ k, ok k → ok' k) : Rel w base ok' A2 c2 a A3 c3 b := ⟨Kd.R_mono h.r2 hk, Kd.S_mono h.r3 hk⟩
end
set_option maxHeartbeats 2000000 in
theorem markRel (k : Nat) (t s : Int) (A2 : Option Addr) (c2 : Nat) (a : List Bool) (A3 : Option Addr) (c3 : Nat) (b : List (List Int)) (w : World) (base : Nat) (ok : Nat → Prop) (hle : base ≤ w.heap.size) (h : Rel w base ok A2 c2 a A3 c3 b) (hl : b.length ≤ 2000000) (hk : k + a.length + tot b ≤ 1000000000) :
  Calls Tryd.prog 23 #[.agg #[.int .i64 t, .int .i64 s, .slice A2 a.length c2, .slice A3 b.length c3], .int .i64 (k : Int)] w fun e w' => e = .returned (.int .i64 ((k + a.length + tot b : Nat) : Int)) ∧ Rel w' base ok A2 c2 (mB k a.length) A3 c3 (mR (k + a.length) b) ∧ KeepS base w w' ok := by
 have hP := blk_new w (.cells #[.int .i64 t, .int .i64 s, .slice A2 a.length c2, .slice A3 b.length c3] 29)
 have hb1 : Below w.heap.size w (w.alloc (.cells #[.int .i64 t, .int .i64 s, .slice A2 a.length c2, .slice A3 b.length c3] 29)) := below_alloc (Below.refl _ _) _
 have h1 := h.below hb1
 have hb := h.bound
 have m2 : (w.alloc (.cells #[.int .i64 t, .int .i64 s, .slice A2 a.length c2, .slice A3 b.length c3] 29)).cell? ⟨w.heap.size, 2, none⟩ = some (.slice A2 a.length c2) := (blk_cell hP 2).trans rfl
 have r2 : Kd.R Kd.bool 4 (w.alloc (.cells #[.int .i64 t, .int .i64 s, .slice A2 a.length c2, .slice A3 b.length c3] 29)) base (fun k => ok k ∧ k < w.heap.size) (.slice A2 a.length c2) a := Kd.R_mono (Kd.R_step (w1 := (w.alloc (.cells #[.int .i64 t, .int .i64 s, .slice A2 a.length c2, .slice A3 b.length c3] 29))) hb.r2 (fun k _ hk => hb1.block k hk)) (fun k hk => ⟨hk.1, hk.2.2⟩)
 have r3 : Kd.S Row 86 (w.alloc (.cells #[.int .i64 t, .int .i64 s, .slice A2 a.length c2, .slice A3 b.length c3] 29)) base (fun k => ok k ∧ k < w.heap.size) (.slice A3 b.length c3) b := Kd.S_mono (Kd.S_step (w1 := (w.alloc (.cells #[.int .i64 t, .int .i64 s, .slice A2 a.length c2, .slice A3 b.length c3] 29))) hb.r3 (fun k _ hk => hb1.block k hk)) (fun k hk => ⟨hk.1, hk.2.2⟩)
 have hty := Kd.R_typed r2
 have r3q := Aside0.mk (Kd.S_apart' r3 hty (by decide))
 have r2q := Aside0.mk r2
 have hPq := Aside0.mk hP
 have hbq := Aside0.mk hb1
 clear h h1 hb r2 r3 hty hP hb1
 obtain ⟨T, hT⟩ : ∃ T, k + a.length = T := ⟨_, rfl⟩
 obtain ⟨U, hU⟩ : ∃ U, T + tot b = U := ⟨_, rfl⟩
 have hTq := Aside0.mk hT
 have hUq := Aside0.mk hU
 have hkq := Aside0.mk hk
 rw [hT, hU]
 clear hT hU hk
 go_enter Tryd.func23, Tryd.ntmps23
 go_wp2_with (first
  | (go_at_call 73; go_loud (
    have q := markB k A2 c2 a _ base _ (Nat.le_trans hle (Below.size hbq.out)) r2q.out (by have := hkq.out; omega)
    rw [hTq.out] at q
    with_reducible refine q.mono ?_
    rintro e w2 ⟨rfl, hR2, hK2⟩
    have hP2 : w2.heap[w.heap.size]? = _ := (hK2.blk _ (blk_lt hPq.out) (fun e => by have := (r2q.out.1 _ e.symm).2; omega)).trans hPq.out
    have m3 : w2.cell? ⟨w.heap.size, 3, none⟩ = some (.slice A3 b.length c3) := (blk_cell hP2 3).trans rfl
    have hS2 := Kd.S_step (w1 := w2) r3q.out (fun k hk hlt => hK2.blk k hlt (fun e => hk.2 e))
    have hS2b := Kd.S_bound hS2
    have hR2q := Aside0.mk hR2
    have hS2q := Aside0.mk hS2b
    have hK2q := Aside0.mk hK2
    clear hS2 hS2b hR2 hK2 hP2))
  | (go_at_call 76; go_loud (
    have q := markR T A3 c3 b _ base _ (Nat.le_trans (Nat.le_trans hle (Below.size hbq.out)) hK2q.out.size) hS2q.out hl (by have := hkq.out; have := hTq.out; omega)
    rw [hUq.out] at q
    with_reducible refine q.mono ?_
    rintro e w3 ⟨rfl, hS3, hK3⟩
    have hS3q := Aside0.mk hS3
    have hK3q := Aside0.mk hK3
    clear hS3 hK3)))
 go_ret
 refine ⟨rfl, ⟨?_, ?_⟩, ?_⟩
 ·rw [mB_length]
  refine Kd.R_mono (Kd.R_step (w1 := w3) (Kd.R_bound hR2q.out) (fun k hk hlt => hK3q.out.blk k hlt (fun e => ?_))) (fun k hk => hk.1.1)
  obtain ⟨_, _, _, q, hq, cells, hc⟩ := hk
  obtain ⟨_, _, _, q', hq', cells', hc'⟩ := e
  rw [hc] at hc'
  injection hc' with hc'
  injection hc' with _ hc'
  exact (show ∀ a ∈ 4 :: Kd.bool.E, ∀ b ∈ 86 :: Row.E, a ≠ b by decide) q hq q' hq' hc'
 ·rw [mR_length]
  exact Kd.S_mono hS3q.out (fun k hk => hk.1.1.1)
 ·have h1 : KeepS base w (w.alloc (.cells #[.int .i64 t, .int .i64 s, .slice A2 a.length c2, .slice A3 b.length c3] 29)) ok := (KeepS.refl w ok hle).below hbq.out
  have h2 : KeepS base w w2 ok := h1.trans hK2q.out (Nat.le_refl _) (fun k hk => .inl (r2q.out.1 k hk.symm).1)
  exact h2.trans hK3q.out (Nat.le_refl _) (fun k hk => .inl hk.1.1.1)
set_option maxHeartbeats 2000000 in
theorem heldRel (k n : Nat) (t s : Int) (A2 : Option Addr) (c2 : Nat) (A3 : Option Addr) (c3 : Nat) (b : List (List Int)) (w : World) (h2 : Kd.C Kd.bool w A2 n (mB k n)) (h3 : Kd.C Row w A3 b.length (mR (k + n) b)) (hl : b.length ≤ 2000000) (hk : k + n + tot b ≤ 1000000000) :
  Calls Tryd.prog 24 #[.agg #[.int .i64 t, .int .i64 s, .slice A2 n c2, .slice A3 b.length c3], .int .i64 (k : Int)] w fun e w' => e = .returned (.int .i64 ((k + n + tot b : Nat) : Int)) ∧ Below w.heap.size w w' := by
 have hP := blk_new w (.cells #[.int .i64 t, .int .i64 s, .slice A2 n c2, .slice A3 b.length c3] 29)
 have hb1 : Below w.heap.size w (w.alloc (.cells #[.int .i64 t, .int .i64 s, .slice A2 n c2, .slice A3 b.length c3] 29)) := below_alloc (Below.refl _ _) _
 have m2 := (blk_cell hP 2).trans (rfl : _ = some (Value.slice A2 n c2))
 have g2 := Kd.C_below h2 hb1
 have z1 : ((((k + n : Nat) : Int)) < 0) = False := eq_false (by omega)
 have z2 : ((((k + n + tot b : Nat) : Int)) < 0) = False := eq_false (by omega)
 obtain ⟨T, hT⟩ : ∃ T, k + n = T := ⟨_, rfl⟩
 obtain ⟨U, hU⟩ : ∃ U, T + tot b = U := ⟨_, rfl⟩
 rw [hT] at z1 z2 h3 ⊢
 rw [hU] at z2 ⊢
 have hTq := Aside0.mk hT
 have hUq := Aside0.mk hU
 have hkq := Aside0.mk hk
 clear hT hU hk
 go_enter Tryd.func24, Tryd.ntmps24
 go_wp2_with (first
  | (go_at_call 77; go_loud (
    have q := heldB k n A2 c2 _ g2 (by have := hkq.out; omega)
    rw [hTq.out] at q
    with_reducible refine q.mono ?_
    rintro e w2 ⟨rfl, hb2⟩
    have m3 : w2.cell? ⟨w.heap.size, 3, none⟩ = some (.slice A3 b.length c3) := (blk_cell (blk_below hP hb2) 3).trans rfl
    have hB2 := below_step hb1 hb2))
  | (go_at_call 78; go_loud (
    have q := heldR T A3 c3 b _ (Kd.C_below h3 hB2) hl (by have := hkq.out; have := hTq.out; omega)
    rw [hUq.out] at q
    with_reducible refine q.mono ?_
    rintro e w3 ⟨rfl, hb3⟩
    have hB3 := below_step hB2 hb3)))
 go_ret
 exact ⟨rfl, hB3⟩
end Go.Proofs.YtbamnonamdpooaaDoor.Mk
namespace Go.Proofs.YtbamnonamdpooaaDoor.Ro
set_option linter.unusedVariables false
set_option linter.unusedSimpArgs false
open Go.RowKit Go.Proofs.YtbamnonamdpooaaDoorW.PrintWords Go.Proofs.YtbamnonamdpooaaDoorW.PrintLast Go.Proofs.YtbamnonamdpooaaDoorW.PrintMore Mp Kp Mg Mk
theorem info_longs : (Tryd.prog.info? 86).map (fun i => (i.zero, i.size, i.bytes)) = some (some (.slice none 0 0), 1, 24) := by kernel_rfl
theorem info_long1 : (Tryd.prog.info? 2).map (fun i => (i.zero, i.size, i.bytes)) = some (some (.int .i64 0), 1, 8) := by kernel_rfl
theorem S_off {α : Type} {d : Kd α} {e : Nat} {W W' : World} {base : Nat} {ok : Nat → Prop} {v : Value} {xs : List α} {x : Option Nat} (h : Kd.S d e W base ok v xs) (hk : Keep W W' x) (ho : Off W x (e :: d.E)) : Kd.S d e W' base ok v xs :=
 Kd.S_mono (Kd.S_step (w1 := W') (Kd.S_bound h) (fun k hk' hlt => hk.blk k hlt (fun he => by
  obtain ⟨_, _, _, q, hq, cells, hc⟩ := hk'
  exact ho k he.symm cells q hq hc))) (fun _ hk => hk.1)
set_option maxHeartbeats 2000000 in
set_option maxRecDepth 100000 in
theorem asLongs (A : Option Addr) (c : Nat) (xs : List Int) (w : World) (hC : Kd.C (Kd.int .i64) w A xs.length xs) (hl : xs.length ≤ 1000000) :
  Calls Tryd.prog 164 #[.slice A xs.length c] w fun e w' => ∃ v, e = .returned v ∧ Kd.R (Kd.int .i64) 2 w' w.heap.size (fun _ => True) v xs ∧ Below w.heap.size w w' := by
 go_enter Tryd.func164, Tryd.ntmps164
 go_wp2_with fail
 go_loopg [3, 8] xs.length (fun kq v3 v8 W => ∃ (i : Nat) (Ar : Option Addr) (cr : Nat), v3 = .slice Ar i cr ∧ v8 = .int .i64 (i : Int) ∧ Aside0 (kq = xs.length - i) ∧ i ≤ xs.length ∧ Aside0 (Kd.R (Kd.int .i64) 2 W w.heap.size (fun _ => True) (.slice Ar i cr) (xs.take i)) ∧ Aside0 (Below w.heap.size w W))
 case atStart => exact ⟨0, none, 0, rfl, rfl, ⟨rfl⟩, Nat.zero_le _, ⟨Kd.R_nil _ _ _ _ _⟩, ⟨Below.refl _ _⟩⟩
 case round =>
  obtain ⟨i, Ar, cr, rfl, rfl, hq, hil, hR, hB⟩ := hrel
  by_cases hi : i < xs.length
  ·have hi1 : ((i : Int) < (xs.length : Int)) = True := eq_true (by omega)
   have h0i : (0 ≤ (i : Int)) = True := eq_true (by omega)
   obtain ⟨ad, rfl, k1⟩ := at_num (Kd.C_below hC hB.out) i hi
   have htk := Aside0.mk (List.take_succ_eq_append_getElem hi)
   have htl : Aside0 ((xs.take i).length = i) := ⟨by rw [List.length_take]; omega⟩
   generalize xs[i] = y at *
   go_wp2_with ((with_reducible refine gate_builtin (b := .append) (xs := #[.tmp 12, .tmp 14]) rfl ?_); go_loud (at_builtin; refine R_append' (Kd.int .i64) (w0 := w) w.heap.size rfl (.tmp 12) (.tmp 14) 86 2 (.int .i64 0) 8 rfl Tryd.underlying86 info_long1 rfl (by decide) (by decide) (.slice Ar i cr) (xs.take i) y [.int .i64 y] (fun _ => True) (fun _ => False) _ (by simp) rfl rfl rfl (fun _ h => h.elim) (fun _ _ => trivial) hR.out hB.out (Below.size hB.out) (by have := htl.out; omega) ?_; intro v6 w6 hR6 hb6 hg6 hat6; obtain ⟨A6, c6, hv6⟩ := Kd.R_slice hR6; have ev : (xs.take i ++ [y]).length = i + 1 := (by rw [List.length_append, htl.out]; rfl); rw [ev] at hv6; subst hv6))
   go_roundg (xs.length - (i + 1))
   case measure => have := hq.out; omega
   case rel => exact ⟨i + 1, A6, c6, rfl, (by go_num), ⟨by simp⟩, by omega, ⟨by rw [htk.out]; exact hR6⟩, ⟨hb6⟩⟩
  ·have hi1 : ((i : Int) < (xs.length : Int)) = False := eq_false (by omega)
   have he : i = xs.length := by omega
   subst he
   have hR2 := hR.out
   rw [List.take_length] at hR2
   go_wp2_with fail
   go_ret
   exact ⟨_, rfl, hR2, hB.out⟩
/-- The machine that is read, and the result's cell. -/
structure Pr (w0 : World) (t : Int) (AA : Option Addr) (na ca : Nat) (AN : Option Addr) (nn cn : Nat) (W : World) : Prop where
 bP : W.heap[w0.heap.size]? = some (.cells #[.int .i64 t, .int .i64 0, .slice AA na ca, .slice AN nn cn] 77 (0, 0))
 bR : W.heap[w0.heap.size + 1]? = some (.cells #[.int .i64 0, .int .i64 0, .slice none 0 0, .slice none 0 0] 29 (0, 0))
 bel : Below w0.heap.size w0 W
section
variable {w0 : World} {t : Int} {AA : Option Addr} {na ca : Nat} {AN : Option Addr} {nn cn : Nat} {W W' : World}
theorem Pr.step (h : Pr w0 t AA na ca AN nn cn W) (hb : Below W.heap.size W W') : Pr w0 t AA na ca AN nn cn W' := ⟨blk_below h.bP hb, blk_below h.bR hb, below_step h.bel hb⟩
theorem Pr.lt (h : Pr w0 t AA na ca AN nn cn W) : w0.heap.size + 1 < W.heap.size := blk_lt h.bR
end
/-- .. and the relation that is made. -/
structure Mr (w0 : World) (t : Int) (AA : Option Addr) (na ca : Nat) (AN : Option Addr) (nn cn : Nat) (gl : Nat) (vA : Value) (bs : List Bool) (vN : Value) (rws : List (List Int)) (W : World) : Prop where
 p : Pr w0 t AA na ca AN nn cn W
 bV : W.heap[gl]? = some (.cells #[.int .i64 t, .int .i64 0, vA, vN] 29 (0, 0))
 acc : Kd.R Kd.bool 4 W w0.heap.size (fun _ => True) vA bs
 nxt : Kd.S Row 86 W w0.heap.size (fun _ => True) vN rws
section
variable {w0 : World} {t : Int} {AA : Option Addr} {na ca : Nat} {AN : Option Addr} {nn cn gl : Nat} {vA vN : Value} {bs : List Bool} {rws : List (List Int)} {W W' : World}
theorem Mr.step (h : Mr w0 t AA na ca AN nn cn gl vA bs vN rws W) (hb : Below W.heap.size W W') : Mr w0 t AA na ca AN nn cn gl vA bs vN rws W' := ⟨h.p.step hb, blk_below h.bV hb, Kd.R_below h.acc hb, Kd.S_below h.nxt hb⟩
/-- The row is put behind the others. -/
theorem Mr.push {v1 : Value} {rws' : List (List Int)} (h : Mr w0 t AA na ca AN nn cn gl vA bs vN rws W) (hg : W.grownBy W' vN.ownBlock) (hR : Kd.S Row 86 W' w0.heap.size (fun _ => True) v1 rws') (hb : Below w0.heap.size w0 W') (hgl : w0.heap.size + 1 < gl) :
  W'.heap[gl]? = some (.cells #[.int .i64 t, .int .i64 0, vA, vN] 29 (0, 0)) ∧ Mr w0 t AA na ca AN nn cn gl vA bs v1 rws' (W'.setCell ⟨gl, 3, none⟩ v1) := by
 have hk := Keep.grown hg
 have o : ∀ E : List Nat, (∀ q ∈ E, q ≠ 86) → Off W vN.ownBlock E := fun E hE => Off.row (Kd.S_R h.nxt) hE
 have bV := hk.obj h.bV (off_ne h.bV (o _ (by decide)))
 refine ⟨bV, ?_⟩
 have hs := Keep.set W' ⟨gl, 3, none⟩ v1
 have p : ∀ E : List Nat, (∀ q ∈ E, q ≠ 29) → Off W' (some gl) E := fun E hE => Off.cells bV hE
 have n0 : some w0.heap.size ≠ some gl := fun e => by injection e; omega
 have n1 : some (w0.heap.size + 1) ≠ some gl := fun e => by injection e; omega
 exact ⟨⟨hs.obj (hk.obj h.p.bP (off_ne h.p.bP (o _ (by decide)))) n0, hs.obj (hk.obj h.p.bR (off_ne h.p.bR (o _ (by decide)))) n1, hb.setCell (p := ⟨gl, 3, none⟩) (by simp only; omega) v1⟩, blk_put bV 3 v1 rfl, R_off (R_off h.acc hk (o _ (by decide))) hs (p _ (by decide)), S_off hR hs (p _ (by decide))⟩
end
set_option maxHeartbeats 8000000 in
set_option maxRecDepth 100000 in
theorem relationOf (t : Int) (accs : List Bool) (rows : List (List Int)) (h0 : 0 < accs.length) (hn : accs.length ≤ 150) (hn2 : rows.length ≤ 1000000) (hn3 : ∀ r ∈ rows, r.length ≤ 1000000) (w : World) (AA : Option Addr) (ca : Nat) (AN : Option Addr) (cn : Nat) (hA : Kd.C Kd.bool w AA accs.length accs) (hN : Kd.C (Kd.slice 3 (Kd.int .i64)) w AN rows.length rows) :
  Calls Tryd.prog 125 #[.agg #[.int .i64 t, .int .i64 0, .slice AA accs.length ca, .slice AN rows.length cn]] w fun e w' => ∃ A2 c2 A3 c3, e = .returned (.tuple #[.agg #[.int .i64 t, .int .i64 0, .slice A2 accs.length c2, .slice A3 rows.length c3], .int .i64 0]) ∧ Rel w' w.heap.size (fun _ => True) A2 c2 accs A3 c3 rows ∧ Below w.heap.size w w' := by
 have hP : Pr w t AA accs.length ca AN rows.length cn ((w.alloc (.cells #[.int .i64 t, .int .i64 0, .slice AA accs.length ca, .slice AN rows.length cn] 77)).alloc (.cells #[.int .i64 0, .int .i64 0, .slice none 0 0, .slice none 0 0] 29)) :=
  ⟨blk_alloc (blk_new _ _) _, blk_at _ _ _ (by simp), below_alloc (below_alloc (Below.refl _ _) _) _⟩
 have k2 : ((w.alloc (.cells #[.int .i64 t, .int .i64 0, .slice AA accs.length ca, .slice AN rows.length cn] 77)).alloc (.cells #[.int .i64 0, .int .i64 0, .slice none 0 0, .slice none 0 0] 29)).cell? ⟨w.heap.size, 2, none⟩ = some (.slice AA accs.length ca) := (blk_cell hP.bP 2).trans rfl
 have hlt0 : ((150 : Int) < (accs.length : Int)) = False := eq_false (by omega)
 go_enter Tryd.func125, Tryd.ntmps125
 go_wp2
 clear k2 hlt0
 have hPd := hP.step (below_drew1 (Below.refl _ _))
 clear hP
 generalize hwd : (w.alloc (.cells #[.int .i64 t, .int .i64 0, .slice AA accs.length ca, .slice AN rows.length cn] 77)).alloc (.cells #[.int .i64 0, .int .i64 0, .slice none 0 0, .slice none 0 0] 29) = wd at *
 have hSS : ∀ W', Pr w t AA accs.length ca AN rows.length cn W' → (fun w' => w'.cell? ⟨w.heap.size, 0, none⟩ = some (.int .i64 t) ∧ w'.cell? ⟨w.heap.size, 1, none⟩ = some (.int .i64 0) ∧ w'.cell? ⟨w.heap.size, 2, none⟩ = some (.slice AA accs.length ca)) W' := fun W' h => ⟨(blk_cell h.bP 0).trans rfl, (blk_cell h.bP 1).trans rfl, (blk_cell h.bP 2).trans rfl⟩
 refine start_ (n := 10) (S := fun w' => w'.cell? ⟨w.heap.size, 0, none⟩ = some (.int .i64 t) ∧ w'.cell? ⟨w.heap.size, 1, none⟩ = some (.int .i64 0) ∧ w'.cell? ⟨w.heap.size, 2, none⟩ = some (.slice AA accs.length ca)) (ds := [9]) (.replicate 10 false) (by kernel_rfl) rfl rfl (hSS _ hPd) (fun hHeld => ?_)
 refine pure_ (i := 0) (N := some 12) (v := ?_) (a' := ?_) (zb 10 1) rfl rfl (by kernel_rfl) (fun _ _ _ h => h) (Or.inl ⟨by rfl, ?_⟩) ?_ ?_
 rotate_left
 ·intro w'
  go_simp
  with_reducible rfl
 rotate_left
 ·simp only [Act.put, Za, Zb, Zc, i64_w, i32_w]
  rfl
 refine pure_ (i := 2) (N := some 14) (v := ?_) (a' := ?_) (zb 10 5) rfl rfl (by kernel_rfl) (fun _ _ _ h => h) (Or.inl ⟨by rfl, ?_⟩) ?_ ?_
 rotate_left
 ·intro w'
  go_simp
  with_reducible rfl
 rotate_left
 ·simp only [Act.put, Za, Zb, Zc, i64_w, i32_w]
  rfl
 refine pure_ (i := 4) (N := some 16) (v := ?_) (a' := ?_) (zb 10 21) rfl rfl (by kernel_rfl) (fun _ _ _ h => h) (Or.inl ⟨by rfl, ?_⟩) ?_ ?_
 rotate_left
 ·intro w'
  go_simp
  with_reducible rfl
 rotate_left
 ·simp only [Act.put, Za, Zb, Zc, i64_w, i32_w]
  rfl
 refine take_ (i := 1) (N := some 13) (v := ?_) (a' := ?_) (zb 10 23) rfl rfl (by kernel_rfl) (fun _ _ _ h => h) (Or.inl ⟨by rfl, ?_⟩) hHeld ?_ ?_
 rotate_left
 ·rintro w' ⟨s1, s2, s3⟩
  go_simp
  with_reducible rfl
 rotate_left
 ·simp only [Act.put, Za, Zb, Zc, i64_w, i32_w]
  rfl
 refine take_ (i := 3) (N := some 15) (v := ?_) (a' := ?_) (zb 10 31) rfl rfl (by kernel_rfl) (fun _ _ _ h => h) (Or.inl ⟨by rfl, ?_⟩) hHeld ?_ ?_
 rotate_left
 ·rintro w' ⟨s1, s2, s3⟩
  go_simp
  with_reducible rfl
 rotate_left
 ·simp only [Act.put, Za, Zb, Zc, i64_w, i32_w]
  rfl
 refine take_ (i := 5) (N := some 17) (v := ?_) (a' := ?_) (zb 10 63) rfl rfl (by kernel_rfl) (fun _ _ _ h => h) (Or.inl ⟨by rfl, ?_⟩) hHeld ?_ ?_
 rotate_left
 ·rintro w' ⟨s1, s2, s3⟩
  go_simp
  with_reducible rfl
 rotate_left
 ·simp only [Act.put, Za, Zb, Zc, i64_w, i32_w]
  rfl
 refine join_ (σ := Value × Nat) 1 #[true, true, true, true, true, true, true, true, true, false] (fun s => [(18, s.1), (19, .agg #[.int .i64 t, .int .i64 0, s.1, .slice none 0 0]), (4, .pointer (some ⟨s.2, 0, none⟩))])
  (fun s w' => Pr w t AA accs.length ca AN rows.length cn w' ∧ Kd.R Kd.bool 4 w' w.heap.size (fun _ => True) s.1 accs ∧ w'.heap[s.2]? = some (.cells #[.int .i64 0, .int .i64 0, .slice none 0 0, .slice none 0 0] 29 (0, 0)) ∧ w.heap.size + 1 < s.2) ?_ ?_
 rotate_left
 ·intro hCont
  refine two_ (i := 6) (j := 8) (Ni := some 18) (Nj := some 4) #[true, true, true, true, true, true, true, false, false, false] #[true, true, true, true, true, true, false, false, true, false] rfl rfl rfl rfl (by kernel_rfl) (by decide) (by decide) (fun K hK => ?_) (fun K hK => ?_)
  ·skip
   refine goes_ Tryd.func91 (by kernel_rfl) rfl #[.slice AA accs.length ca] (by rfl) rfl rfl (by (try simp only [List.map_toArray, List.map_cons, List.map_nil]); first | done | rfl) ?_
   with_reducible refine (Mo.clone _ AA ca accs h0 (by omega) (Kd.C_below hA hPd.bel)).mono ?_
   rintro e w6 ⟨vA, rfl, r1, hb6⟩
   refine ⟨_, rfl, ?_⟩
   have h6 := hPd.step hb6
   have q1 := Kd.R_lower r1 (Below.size hPd.bel)
   obtain ⟨A1, c1, rfl⟩ := Kd.R_slice q1
   refine hK.out _ _ (hSS _ h6) (fun hHeld => ?_)
   clear hK K
   refine norm_ (a' := ?_) ?_ ?_
   rotate_left
   ·show Act.put _ (some 18) _ = _
    simp only [Act.put, Za, Zb, Zc, i64_w, i32_w]
    rfl
   refine pure_ (i := 7) (N := some 19) (v := ?_) (a' := ?_) (zb 10 255) rfl rfl (by kernel_rfl) (fun _ _ _ h => h) (Or.inl ⟨by rfl, ?_⟩) ?_ ?_
   rotate_left
   ·intro w'
    go_simp
    with_reducible rfl
   rotate_left
   ·simp only [Act.put, Za, Zb, Zc, i64_w, i32_w]
    rfl
   refine one_ (i := 8) (N := some 4) (zb 10 511) rfl rfl (by kernel_rfl) (by decide) (fun K hK => ?_)
   refine value_ (w1 := w6.alloc (.cells #[.int .i64 0, .int .i64 0, .slice none 0 0, .slice none 0 0] 29)) (v := .pointer (some ⟨w6.heap.size, 0, none⟩)) (by rfl) rfl (by first | (go_simp; done) | (go_simp; rfl)) ?_
   have h7 := h6.step (below_alloc (Below.refl _ _) (.cells #[.int .i64 0, .int .i64 0, .slice none 0 0, .slice none 0 0] 29))
   refine hK.out _ _ (hSS _ h7) (fun hHeld => ?_)
   clear hK K
   refine norm_ (a' := ?_) ?_ ?_
   rotate_left
   ·show Act.put _ (some 4) _ = _
    simp only [Act.put, Za, Zb, Zc, i64_w, i32_w]
    rfl
   exact norm_ (by simp only [putAll, Act.put, List.setIfInBounds_toArray, List.set_cons_zero, List.set_cons_succ]) (hCont (.slice A1 accs.length c1, w6.heap.size) _ ⟨h7, Kd.R_below q1 (below_alloc (Below.refl _ _) _), blk_new _ _, h6.lt⟩)
  ·skip
   refine value_ (w1 := wd.drew.alloc (.cells #[.int .i64 0, .int .i64 0, .slice none 0 0, .slice none 0 0] 29)) (v := .pointer (some ⟨wd.drew.heap.size, 0, none⟩)) (by rfl) rfl (by first | (go_simp; done) | (go_simp; rfl)) ?_
   have h6 := hPd.step (below_alloc (Below.refl _ _) (.cells #[.int .i64 0, .int .i64 0, .slice none 0 0, .slice none 0 0] 29))
   refine hK.out _ _ (hSS _ h6) (fun hHeld => ?_)
   clear hK K
   refine norm_ (a' := ?_) ?_ ?_
   rotate_left
   ·show Act.put _ (some 4) _ = _
    simp only [Act.put, Za, Zb, Zc, i64_w, i32_w]
    rfl
   refine one_ (i := 6) (N := some 18) (zb 10 383) rfl rfl (by kernel_rfl) (by decide) (fun K hK => ?_)
   refine goes_ Tryd.func91 (by kernel_rfl) rfl #[.slice AA accs.length ca] (by rfl) rfl rfl (by (try simp only [List.map_toArray, List.map_cons, List.map_nil]); first | done | rfl) ?_
   with_reducible refine (Mo.clone _ AA ca accs h0 (by omega) (Kd.C_below hA h6.bel)).mono ?_
   rintro e w7 ⟨vA, rfl, r1, hb6⟩
   refine ⟨_, rfl, ?_⟩
   have h7 := h6.step hb6
   have q1 := Kd.R_lower r1 (Below.size h6.bel)
   obtain ⟨A1, c1, rfl⟩ := Kd.R_slice q1
   refine hK.out _ _ (hSS _ h7) (fun hHeld => ?_)
   clear hK K
   refine norm_ (a' := ?_) ?_ ?_
   rotate_left
   ·show Act.put _ (some 18) _ = _
    simp only [Act.put, Za, Zb, Zc, i64_w, i32_w]
    rfl
   refine pure_ (i := 7) (N := some 19) (v := ?_) (a' := ?_) (zb 10 511) rfl rfl (by kernel_rfl) (fun _ _ _ h => h) (Or.inl ⟨by rfl, ?_⟩) ?_ ?_
   rotate_left
   ·intro w'
    go_simp
    with_reducible rfl
   rotate_left
   ·simp only [Act.put, Za, Zb, Zc, i64_w, i32_w]
    rfl
   exact norm_ (by simp only [putAll, Act.put, List.setIfInBounds_toArray, List.set_cons_zero, List.set_cons_succ]) (hCont (.slice A1 accs.length c1, wd.drew.heap.size) _ ⟨h7, q1, blk_below (blk_new _ _) hb6, hPd.lt⟩)
 rintro ⟨vA, gl⟩ w8 ⟨h8, r1, b0, hgl⟩
 dsimp only at r1 b0 hgl ⊢
 obtain ⟨A1, c1, rfl⟩ := Kd.R_slice r1
 refine norm_ (a' := ?_) ?_ ?_
 rotate_left
 ·simp only [putAll, Act.put, List.setIfInBounds_toArray, List.set_cons_zero, List.set_cons_succ, i64_w, i32_w]
  rfl
 have e0 : w8.cell? ⟨gl, 0, none⟩ = some (.int .i64 0) := (blk_cell b0 0).trans rfl
 have f0 : w8.frozen? ⟨gl, 0, none⟩ = false := blk_frozen b0 0
 have e1 : w8.cell? ⟨gl, 1, none⟩ = some (.int .i64 0) := (blk_cell b0 1).trans rfl
 have f1 : w8.frozen? ⟨gl, 1, none⟩ = false := blk_frozen b0 1
 have e2 : w8.cell? ⟨gl, 2, none⟩ = some (.slice none 0 0) := (blk_cell b0 2).trans rfl
 have f2 : w8.frozen? ⟨gl, 2, none⟩ = false := blk_frozen b0 2
 have e3 : w8.cell? ⟨gl, 3, none⟩ = some (.slice none 0 0) := (blk_cell b0 3).trans rfl
 have f3 : w8.frozen? ⟨gl, 3, none⟩ = false := blk_frozen b0 3
 refine last_ (i := 9) (N := none) (zb 10 1023) rfl rfl (by kernel_rfl) (by decide) (fun K hK => ?_)
 refine skip_ (w1 := (((w8.setCell ⟨gl, 0, none⟩ (.int .i64 t)).setCell ⟨gl, 1, none⟩ (.int .i64 0)).setCell ⟨gl, 2, none⟩ (.slice A1 accs.length c1)).setCell ⟨gl, 3, none⟩ (.slice none 0 0)) (by rfl) rfl (by first | (go_simp; done) | (go_simp; rfl)) ?_
 refine hK.out _ _ ?_
 clear hK K
 refine done_ (by kernel_rfl) ?_
 have hgg : w.heap.size ≤ gl := by omega
 have n0 : some w.heap.size ≠ some gl := fun e => by injection e; omega
 have n1 : some (w.heap.size + 1) ≠ some gl := fun e => by injection e; omega
 have b1 := blk_put b0 0 (.int .i64 t) rfl
 have b2 := blk_put b1 1 (.int .i64 0) rfl
 have b3 := blk_put b2 2 (.slice A1 accs.length c1) rfl
 have b4 := blk_put b3 3 (.slice none 0 0) rfl
 have q1 := Kd.R_set (Kd.R_set (Kd.R_set (Kd.R_set r1 b0 (by decide) 0 (.int .i64 t)) b1 (by decide) 1 (.int .i64 0)) b2 (by decide) 2 (.slice A1 accs.length c1)) b3 (by decide) 3 (.slice none 0 0)
 have hB := (((h8.bel.setCell (p := ⟨gl, 0, none⟩) hgg (.int .i64 t)).setCell (p := ⟨gl, 1, none⟩) hgg (.int .i64 0)).setCell (p := ⟨gl, 2, none⟩) hgg (.slice A1 accs.length c1)).setCell (p := ⟨gl, 3, none⟩) hgg (.slice none 0 0)
 have bP := (Keep.set _ ⟨gl, 3, none⟩ (.slice none 0 0)).obj ((Keep.set _ ⟨gl, 2, none⟩ (.slice A1 accs.length c1)).obj ((Keep.set _ ⟨gl, 1, none⟩ (.int .i64 0)).obj ((Keep.set _ ⟨gl, 0, none⟩ (.int .i64 t)).obj h8.bP n0) n0) n0) n0
 have bR := (Keep.set _ ⟨gl, 3, none⟩ (.slice none 0 0)).obj ((Keep.set _ ⟨gl, 2, none⟩ (.slice A1 accs.length c1)).obj ((Keep.set _ ⟨gl, 1, none⟩ (.int .i64 0)).obj ((Keep.set _ ⟨gl, 0, none⟩ (.int .i64 t)).obj h8.bR n1) n1) n1) n1
 clear b0 b1 b2 b3 r1 e0 e1 e2 e3 f0 f1 f2 f3 h8 hSS hPd n0 n1
 generalize ((((w8.setCell ⟨gl, 0, none⟩ (.int .i64 t)).setCell ⟨gl, 1, none⟩ (.int .i64 0)).setCell ⟨gl, 2, none⟩ (.slice A1 accs.length c1)).setCell ⟨gl, 3, none⟩ (.slice none 0 0)) = w9 at *
 have hM : Mr w t AA accs.length ca AN rows.length cn gl (.slice A1 accs.length c1) accs (.slice none 0 0) [] w9 := ⟨⟨bP, bR, hB⟩, b4, q1, Kd.S_nil _ _ _ _ _⟩
 have c3 : w9.cell? ⟨w.heap.size, 3, none⟩ = some (.slice AN rows.length cn) := (blk_cell bP 3).trans rfl
 clear bP bR hB b4 q1
 go_wp2
 clear c3
 go_loopg [23] rows.length (fun kq v23 wr => ∃ (i : Nat) (A2 : Option Addr) (c2 : Nat), v23 = .int .i64 (i : Int) ∧ Aside0 (kq = rows.length - i) ∧ i ≤ rows.length ∧ Aside0 (Mr w t AA accs.length ca AN rows.length cn gl (.slice A1 accs.length c1) accs (.slice A2 i c2) (rows.take i) wr))
 case atStart => exact ⟨0, none, 0, rfl, ⟨by simp⟩, Nat.zero_le _, ⟨hM⟩⟩
 case round =>
  clear hM
  obtain ⟨wo, rfl⟩ : ∃ wo : World, wo = wr := ⟨_, rfl⟩
  obtain ⟨i, A2, c2, rfl, hkq, hil, hM⟩ := hrel
  replace hM := hM.out
  by_cases hlt : i < rows.length
  ·obtain ⟨ad, rfl, A', c', k1, k2, k3⟩ := at_row (Kd.C_below hN hM.p.bel) i hlt
   have hrl : rows[i].length ≤ 1000000 := hn3 _ (List.getElem_mem hlt)
   have htk2 := Aside0.mk (List.take_succ_eq_append_getElem hlt)
   have hil2 : Aside0 ((rows.take i).length = i) := ⟨by rw [List.length_take]; omega⟩
   generalize rows[i] = ri at *
   have hlt1 : ((i : Int) < (rows.length : Int)) = True := eq_true (by omega)
   have h0i : (0 ≤ (i : Int)) = True := eq_true (by omega)
   go_wp2_with fail
   have h3 := hM.step (below_drew1 (Below.refl _ _))
   refine start_ (n := 8) (S := fun w' => w'.cell? ⟨gl, 3, none⟩ = some (.slice A2 i c2)) (ds := [7]) (.replicate 8 false) (by kernel_rfl) rfl rfl ((blk_cell h3.bV 3).trans rfl) (fun hHeld => ?_)
   refine pure_ (i := 0) (N := some 27) (v := ?_) (a' := ?_) (zb 8 1) rfl rfl (by kernel_rfl) (fun _ _ _ h => h) (Or.inl ⟨by rfl, ?_⟩) ?_ ?_
   rotate_left
   ·intro w'
    go_simp
    with_reducible rfl
   rotate_left
   ·simp only [Act.put, Za, Zb, Zc, i64_w, i32_w]
    rfl
   refine pure_ (i := 2) (N := some 29) (v := ?_) (a' := ?_) (zb 8 5) rfl rfl (by kernel_rfl) (fun _ _ _ h => h) (Or.inl ⟨by rfl, ?_⟩) ?_ ?_
   rotate_left
   ·intro w'
    go_simp
    with_reducible rfl
   rotate_left
   ·simp only [Act.put, Za, Zb, Zc, i64_w, i32_w]
    rfl
   refine take_ (i := 1) (N := some 28) (v := ?_) (a' := ?_) (zb 8 7) rfl rfl (by kernel_rfl) (fun _ _ _ h => h) (Or.inl ⟨by rfl, ?_⟩) hHeld ?_ ?_
   rotate_left
   ·rintro w' s0
    go_simp
    with_reducible rfl
   rotate_left
   ·simp only [Act.put, Za, Zb, Zc, i64_w, i32_w]
    rfl
   refine one_ (i := 3) (N := some 30) (zb 8 15) rfl rfl (by kernel_rfl) (by decide) (fun K hK => ?_)
   refine goes_ Tryd.func164 (by kernel_rfl) rfl #[.slice A' ri.length c'] (by rfl) rfl rfl (by (try simp only [List.map_toArray, List.map_cons, List.map_nil]); first | done | rfl) ?_
   with_reducible refine (asLongs A' c' ri _ (Kd.C_below k3 (below_drew1 (Below.refl _ _))) hrl).mono ?_
   rintro e w4 ⟨v4, rfl, r4, hb4⟩
   obtain ⟨A4, c4, e4⟩ := Kd.R_slice r4
   subst e4
   refine ⟨_, rfl, ?_⟩
   have h4 := h3.step hb4
   refine hK.out _ _ ((blk_cell h4.bV 3).trans rfl) (fun hHeld => ?_)
   clear hK K
   refine norm_ (a' := ?_) ?_ ?_
   rotate_left
   ·show Act.put _ (some 30) _ = _
    simp only [Act.put, Za, Zb, Zc, i64_w, i32_w]
    rfl
   refine one_ (i := 4) (N := some 31) (zb 8 31) rfl rfl (by kernel_rfl) (by decide) (fun K hK => ?_)
   refine value_ (w1 := w4.alloc (.cells #[.slice A4 ri.length c4] 86)) (v := .slice (some ⟨w4.heap.size, 0, none⟩) 1 1) (by rfl) rfl (by first | (go_simp; done) | (go_simp; rfl)) ?_
   have h5 := h4.step (below_alloc (Below.refl _ _) (.cells #[.slice A4 ri.length c4] 86))
   refine hK.out _ _ ((blk_cell h5.bV 3).trans rfl) (fun hHeld => ?_)
   clear hK K
   refine norm_ (a' := ?_) ?_ ?_
   rotate_left
   ·show Act.put _ (some 31) _ = _
    simp only [Act.put, Za, Zb, Zc, i64_w, i32_w]
    rfl
   refine one_ (i := 5) (N := some 32) (zb 8 63) rfl rfl (by kernel_rfl) (by decide) (fun K hK => ?_)
   refine Kd.S_append_step Row (w0 := w) w.heap.size (by rfl) (.tmp 28) (.tmp 31) 23 86 (.slice none 0 0) 24 rfl Tryd.underlying23 info_longs rfl (by decide) (by decide) (.slice A2 i c2) (rows.take i) ri [.slice A4 ri.length c4] (fun _ => True) (fun k => wo.heap.size ≤ k ∧ some k ≠ (Value.slice A2 i c2).ownBlock) rfl rfl
    (Kd.M_row (Kd.R_mono (Kd.R_lower (Kd.R_bound r4) (Below.size h3.p.bel)) (fun k hk => ⟨hk.2.1, fun e => by have := Kd.S_lt hM.nxt k e.symm; have h2 : wo.heap.size ≤ k := hk.2.1; omega⟩))) (fun k hk => ⟨trivial, hk.2⟩) (fun _ _ => trivial)
    (Kd.S_mono (Kd.S_below (Kd.S_mono (Kd.S_bound hM.nxt) (ok' := fun k => True ∧ k < wo.heap.size) (fun k hk => ⟨trivial, hk.2.2.1⟩)) (below_step (below_drew1 (Below.refl _ _)) hb4)) (fun k hk => ⟨trivial, fun h => by have := h.1; have := hk.2; omega⟩)) h4.p.bel (Below.size h4.p.bel) (by have := hil2.out; omega) ?_
   intro v6 w6 hR6 hb6 hg6 hat6
   obtain ⟨A6, c6, hv6⟩ := Kd.S_slice hR6
   have ev6 : (rows.take i ++ [ri]).length = i + 1 := by rw [List.length_append, hil2.out]; rfl
   rw [ev6] at hv6
   subst hv6
   obtain ⟨b8, h9⟩ := h4.push hg6 hR6 hb6 hgl
   refine hK.out _ _ ((blk_cell b8 3).trans rfl) (fun hHeld => ?_)
   clear hK K
   refine norm_ (a' := ?_) ?_ ?_
   rotate_left
   ·show Act.put _ (some 32) _ = _
    simp only [Act.put, Za, Zb, Zc, i64_w, i32_w]
    rfl
   refine pure_ (i := 6) (N := some 33) (v := ?_) (a' := ?_) (zb 8 127) rfl rfl (by kernel_rfl) (fun _ _ _ h => h) (Or.inl ⟨by rfl, ?_⟩) ?_ ?_
   rotate_left
   ·intro w'
    go_simp
    with_reducible rfl
   rotate_left
   ·simp only [Act.put, Za, Zb, Zc, i64_w, i32_w]
    rfl
   have c83 : w6.cell? ⟨gl, 3, none⟩ = some (.slice A2 i c2) := (blk_cell b8 3).trans rfl
   have f83 : w6.frozen? ⟨gl, 3, none⟩ = false := blk_frozen b8 3
   refine last_ (i := 7) (N := none) (zb 8 255) rfl rfl (by kernel_rfl) (by decide) (fun K hK => ?_)
   refine skip_ (w1 := w6.setCell ⟨gl, 3, none⟩ (.slice A6 (i + 1) c6)) (by rfl) rfl (by first | (go_simp; done) | (go_simp; rfl)) ?_
   refine hK.out _ _ ?_
   clear hK K
   refine done_ (by kernel_rfl) ?_
   clear h3 h4 h5 hHeld c83 f83 b8 hR6 hg6 hb6
   generalize w6.setCell ⟨gl, 3, none⟩ (.slice A6 (i + 1) c6) = w7 at h9 ⊢
   go_wp2_with fail
   go_roundg (rows.length - (i + 1))
   case measure => have := hkq.out; omega
   case rel => exact ⟨i + 1, A6, c6, (by go_num), ⟨by simp⟩, by omega, ⟨by rw [htk2.out]; exact h9⟩⟩
  ·have hii : i = rows.length := by omega
   subst i
   have hlt1 : ((rows.length : Int) < (rows.length : Int)) = False := eq_false (by omega)
   rw [List.take_length] at hM
   have bV := hM.bV
   have d0 : wo.cell? ⟨gl, 0, none⟩ = some (.int .i64 t) := (blk_cell bV 0).trans rfl
   have d1 : wo.cell? ⟨gl, 1, none⟩ = some (.int .i64 0) := (blk_cell bV 1).trans rfl
   have d2 : wo.cell? ⟨gl, 2, none⟩ = some (.slice A1 accs.length c1) := (blk_cell bV 2).trans rfl
   have d3 : wo.cell? ⟨gl, 3, none⟩ = some (.slice A2 rows.length c2) := (blk_cell bV 3).trans rfl
   have b := hM.p.bR
   have e0 : wo.cell? ⟨w.heap.size + 1, 0, none⟩ = some (.int .i64 0) := (blk_cell b 0).trans rfl
   have e1 : wo.cell? ⟨w.heap.size + 1, 1, none⟩ = some (.int .i64 0) := (blk_cell b 1).trans rfl
   have e2 : wo.cell? ⟨w.heap.size + 1, 2, none⟩ = some (.slice none 0 0) := (blk_cell b 2).trans rfl
   have e3 : wo.cell? ⟨w.heap.size + 1, 3, none⟩ = some (.slice none 0 0) := (blk_cell b 3).trans rfl
   have f0 : wo.frozen? ⟨w.heap.size + 1, 0, none⟩ = false := blk_frozen b 0
   have f1 : wo.frozen? ⟨w.heap.size + 1, 1, none⟩ = false := blk_frozen b 1
   have f2 : wo.frozen? ⟨w.heap.size + 1, 2, none⟩ = false := blk_frozen b 2
   have f3 : wo.frozen? ⟨w.heap.size + 1, 3, none⟩ = false := blk_frozen b 3
   go_wp2_with fail
   have b1 := blk_put b 0 (.int .i64 t) rfl
   have b2 := blk_put b1 1 (.int .i64 0) rfl
   have b3 := blk_put b2 2 (.slice A1 accs.length c1) rfl
   have b5 := blk_put b3 3 (.slice A2 rows.length c2) rfl
   refine bodyPost_ret (results_ct rfl _ _ (w.heap.size + 1) 29 #[.int .i64 t, .int .i64 0, .slice A1 accs.length c1, .slice A2 rows.length c2] (0, 0) _ rfl b5 Tryd.underlying29 rfl (by kernel_rfl)) rfl ⟨_, _, _, _, rfl, ⟨?_, ?_⟩, ?_⟩
   ·exact Kd.R_set (Kd.R_set (Kd.R_set (Kd.R_set hM.acc b (by decide) 0 _) b1 (by decide) 1 _) b2 (by decide) 2 _) b3 (by decide) 3 _
   ·exact Kd.S_set (Kd.S_set (Kd.S_set (Kd.S_set hM.nxt b (by decide) 0 _) b1 (by decide) 1 _) b2 (by decide) 2 _) b3 (by decide) 3 _
   ·exact (((hM.p.bel.setCell (by simp) _).setCell (by simp) _).setCell (by simp) _).setCell (by simp) _
set_option maxHeartbeats 4000000 in
/-- .. too many states. -/
theorem relationOf_big (t : Int) (na : Nat) (nn : Nat) (h0 : 150 < na) (w : World) (AA : Option Addr) (ca : Nat) (AN : Option Addr) (cn : Nat) :
  Calls Tryd.prog 125 #[.agg #[.int .i64 t, .int .i64 0, .slice AA na ca, .slice AN nn cn]] w fun e w' => e = .returned (.tuple #[.agg #[.int .i64 0, .int .i64 0, .slice none 0 0, .slice none 0 0], .int .i64 3]) ∧ Below w.heap.size w w' := by
 have bP := blk_alloc (blk_new w (.cells #[.int .i64 t, .int .i64 0, .slice AA na ca, .slice AN nn cn] 77)) (.cells #[.int .i64 0, .int .i64 0, .slice none 0 0, .slice none 0 0] 29)
 have b : ((w.alloc (.cells #[.int .i64 t, .int .i64 0, .slice AA na ca, .slice AN nn cn] 77)).alloc (.cells #[.int .i64 0, .int .i64 0, .slice none 0 0, .slice none 0 0] 29)).heap[w.heap.size + 1]? = some (.cells #[.int .i64 0, .int .i64 0, .slice none 0 0, .slice none 0 0] 29 (0, 0)) := blk_at _ _ _ (by simp)
 have hB := below_alloc (below_alloc (Below.refl w.heap.size w) (.cells #[.int .i64 t, .int .i64 0, .slice AA na ca, .slice AN nn cn] 77)) (.cells #[.int .i64 0, .int .i64 0, .slice none 0 0, .slice none 0 0] 29)
 have hlt0 : ((150 : Int) < (na : Int)) = True := eq_true (by omega)
 go_enter Tryd.func125, Tryd.ntmps125
 generalize hwx : (w.alloc (.cells #[.int .i64 t, .int .i64 0, .slice AA na ca, .slice AN nn cn] 77)).alloc (.cells #[.int .i64 0, .int .i64 0, .slice none 0 0, .slice none 0 0] 29) = wx at *
 have k2 : wx.cell? ⟨w.heap.size, 2, none⟩ = some (.slice AA na ca) := (blk_cell bP 2).trans rfl
 have e0 : wx.cell? ⟨w.heap.size + 1, 0, none⟩ = some (.int .i64 0) := (blk_cell b 0).trans rfl
 have e1 : wx.cell? ⟨w.heap.size + 1, 1, none⟩ = some (.int .i64 0) := (blk_cell b 1).trans rfl
 have e2 : wx.cell? ⟨w.heap.size + 1, 2, none⟩ = some (.slice none 0 0) := (blk_cell b 2).trans rfl
 have e3 : wx.cell? ⟨w.heap.size + 1, 3, none⟩ = some (.slice none 0 0) := (blk_cell b 3).trans rfl
 have f0 : wx.frozen? ⟨w.heap.size + 1, 0, none⟩ = false := blk_frozen b 0
 have f1 : wx.frozen? ⟨w.heap.size + 1, 1, none⟩ = false := blk_frozen b 1
 have f2 : wx.frozen? ⟨w.heap.size + 1, 2, none⟩ = false := blk_frozen b 2
 have f3 : wx.frozen? ⟨w.heap.size + 1, 3, none⟩ = false := blk_frozen b 3
 go_wp2
 have b1 := blk_put b 0 (.int .i64 0) rfl
 have b2 := blk_put b1 1 (.int .i64 0) rfl
 have b3 := blk_put b2 2 (.slice none 0 0) rfl
 have b5 := blk_put b3 3 (.slice none 0 0) rfl
 refine bodyPost_ret (results_ct rfl _ _ (w.heap.size + 1) 29 #[.int .i64 0, .int .i64 0, .slice none 0 0, .slice none 0 0] (0, 0) _ rfl b5 Tryd.underlying29 rfl (by kernel_rfl)) rfl ⟨rfl, ?_⟩
 repeat (first | exact hB | (refine Below.setCell ?_ (by simp) _))
end Go.Proofs.YtbamnonamdpooaaDoor.Ro
namespace Go.Proofs.YtbamnonamdpooaaDoor.PW2
open Go.RowKit Go.Proofs.YtbamnonamdpooaaDoorW.PrintWords Go.Proofs.YtbamnonamdpooaaDoorW.PrintLast Go.Proofs.YtbamnonamdpooaaDoorW.PrintMore PB1
attribute [local go_sem] max2_int min2_int max_two min_two max_three min_three max_four min_four   -- for this text's walks alone
set_option linter.unusedVariables false
set_option linter.unusedSimpArgs false
def errW : Option Int → Value
 | none => .nilIface
 | some c => .iface 0 (.int .i64 c)
theorem errW_none : errW none = .nilIface := rfl
theorem errW_some (c : Int) : errW (some c) = .iface 0 (.int .i64 c) := rfl
end Go.Proofs.YtbamnonamdpooaaDoor.PW2
namespace Go.Proofs.YtbamnonamdpooaaDoor.PW2
open Go.RowKit Go.Proofs.YtbamnonamdpooaaDoorW.PrintWords Go.Proofs.YtbamnonamdpooaaDoorW.PrintLast Go.Proofs.YtbamnonamdpooaaDoorW.PrintMore PB1
attribute [local go_sem] max2_int min2_int max_two min_two max_three min_three max_four min_four   -- for this text's walks alone
set_option linter.unusedVariables false
set_option linter.unusedSimpArgs false
/-! ### spec_l02With: function 187 -/
def spec_l02With.l0 : Nat → Int → Int → Int → Int → Int → Int → Option (Int)
 | 0, _, _, _, _, _, _ => none
 | k + 1, x0, x1, x2, x9, x10, x11 => if x11 < x1 then (if x11 = x2 then (spec_l02With.l0 k x0 x1 x2 x9 x10 (wrap64 (x11 + 1))) else ((spec_l01Digit.f k x0 x10).bind fun t102 => ((spec_l01Power.f k x11).bind fun t103 => (spec_l02With.l0 k x0 x1 x2 (wrap64 (x9 + (wrap64 (t102 * t103)))) (wrap64 (x10 + 1)) (wrap64 (x11 + 1)))))) else (some x9)
def spec_l02With.f (k : Nat) (a0 : Int) (a1 : Int) (a2 : Int) (a3 : Int) : Option (Int) := (spec_l01Power.f k a2).bind fun t101 => (spec_l02With.l0 k a0 a1 a2 (wrap64 (a3 * t101)) 0 0)
theorem spec_l02With.mono_l : ∀ k, (∀ y0 y1 y2 y3 y4 y5, LeO (spec_l02With.l0 k y0 y1 y2 y3 y4 y5) (spec_l02With.l0 (k + 1) y0 y1 y2 y3 y4 y5))
 | 0 => fun _ _ _ _ _ _ r h => by simp [spec_l02With.l0] at h
 | k + 1 => by
  have ih0 := spec_l02With.mono_l k
  ·intro y0 y1 y2 y3 y4 y5
   unfold spec_l02With.l0
   repeat' first
   | (with_reducible exact ih0 _ _ _ _ _ _)
   | (with_reducible exact spec_l01Digit.mono _ _ _)
   | (with_reducible exact spec_l01Power.mono _ _)
   | (with_reducible exact LeO.refl _)
   | (with_reducible exact LeO.none _)
   | (with_reducible refine LeO.ite ?_ ?_)
   | (with_reducible refine LeO.bind ?_ (fun _ => ?_))
   | exact ih0 _ _ _ _ _ _
   | exact spec_l01Digit.mono _ _ _
   | exact spec_l01Power.mono _ _
   | exact LeO.none _
   | refine LeO.ite ?_ ?_
   | refine LeO.bind ?_ (fun _ => ?_)
theorem spec_l02With.mono : ∀ a0 a1 a2 a3 k, LeO (spec_l02With.f k a0 a1 a2 a3) (spec_l02With.f (k + 1) a0 a1 a2 a3) := by
 intro a0 a1 a2 a3 k
 have ih0 := spec_l02With.mono_l k
 unfold spec_l02With.f
 repeat' first
   | (with_reducible exact ih0 _ _ _ _ _ _)
   | (with_reducible exact spec_l01Digit.mono _ _ _)
   | (with_reducible exact spec_l01Power.mono _ _)
   | (with_reducible exact LeO.refl _)
   | (with_reducible exact LeO.none _)
   | (with_reducible refine LeO.ite ?_ ?_)
   | (with_reducible refine LeO.bind ?_ (fun _ => ?_))
   | exact ih0 _ _ _ _ _ _
   | exact spec_l01Digit.mono _ _ _
   | exact spec_l01Power.mono _ _
   | exact LeO.none _
   | refine LeO.ite ?_ ?_
   | refine LeO.bind ?_ (fun _ => ?_)
set_option maxHeartbeats 8000000 in
set_option maxRecDepth 100000 in
theorem spec_l02With.calls (k : Nat) (a0 : Int) (a1 : Int) (a2 : Int) (a3 : Int) (r : Int) (w : World) (h : spec_l02With.f k a0 a1 a2 a3 = some r) :
  Calls Tryd.prog 187 #[.int .i64 a0, .int .i64 a1, .int .i64 a2, .int .i64 a3] w fun e w' => e = .returned (.int .i64 r) ∧ Drawn0 w w' := by
 have H : ((spec_l01Power.f k a2).bind fun t101 => (spec_l02With.l0 k a0 a1 a2 (wrap64 (a3 * t101)) 0 0)) = some r := h
 clear h
 replace H := Option.bind_eq_some_iff.mp H
 obtain ⟨t101, A50, H⟩ := H
 replace H : (spec_l02With.l0 k a0 a1 a2 (wrap64 (a3 * t101)) 0 0) = some r := H
 have A5 := Aside0.mk A50
 clear A50
 have H' := Aside0.mk H
 clear H
 go_enter Tryd.func187, Tryd.ntmps187
 go_wp2_with (first | ((with_reducible refine gate_callee (f := 120) rfl ?_); refine goesL_ (some 14) rfl rfl Tryd.func120 (by kernel_rfl) rfl #[.int .i64 a2] rfl (by (try simp only [List.map_toArray, List.map_cons, List.map_nil]); first | done | rfl | (simp only [List.length_drop, List.length_take]; rfl)) ?_; (with_reducible refine (spec_l01Power.calls k a2 t101 _ A5.out).mono ?_); rintro e w' ⟨rfl, ⟨nd, rfl⟩⟩; refine ⟨_, rfl, ?_⟩))
 go_loopg [9, 10, 11] k (fun kq v9 v10 v11 w' => ∃ (x9_1 : Int) (x10_1 : Int) (x11_1 : Int), v9 = .int .i64 x9_1 ∧ v10 = .int .i64 x10_1 ∧ v11 = .int .i64 x11_1 ∧ Aside0 (spec_l02With.l0 kq a0 a1 a2 x9_1 x10_1 x11_1 = some r) ∧ Aside0 (kq ≤ k) ∧ Drawn0 w w')
 case atStart => exact ⟨(wrap64 (a3 * t101)), (0), (0), (by first | rfl | (simp; done) | (simp [*]; done) | (simp [wrap64]; done)), (by first | rfl | (simp; done) | (simp [*]; done) | (simp [wrap64]; done)), (by first | rfl | (simp; done) | (simp [*]; done) | (simp [wrap64]; done)), H', ⟨Nat.le_refl _⟩, by repeat (first | exact Drawn0.refl _ | apply Drawn0.step)⟩
 case round =>
  clear H'
  try clear c1
  try clear p2
  obtain ⟨x9_1, x10_1, x11_1, rfl, rfl, rfl, HA, HK1, ⟨m1, rfl⟩⟩ := hrel
  cases gk with
  | zero => exact absurd HA.out (by simp [spec_l02With.l0])
  | succ k1 =>
   have H := HA.out
   clear HA
   simp only [spec_l02With.l0] at H
   by_cases c6 : x11_1 < a1
   ·rw [if_pos c6] at H
    have c6b0 : decide (x11_1 < a1) = true := decide_eq_true c6
    clear c6
    by_cases c7 : x11_1 = a2
    ·rw [if_pos c7] at H
     have c7b0 : (x11_1 == a2) = true := beq_iff_eq.mpr c7
     have c7b1 : (x11_1 != a2) = false := bne_eq_false_iff_eq.mpr c7
     clear c7
     have H' := Aside0.mk H
     clear H
     go_wp2
     go_roundg k1
     case measure => have := HK1.out; omega
     case rel => exact ⟨(x9_1), (x10_1), (wrap64 (x11_1 + 1)), (by first | rfl | (simp; done) | (simp [*]; done) | (simp [wrap64]; done)), (by first | rfl | (simp; done) | (simp [*]; done) | (simp [wrap64]; done)), (by first | rfl | (simp; done) | (simp [*]; done) | (simp [wrap64]; done)), H', ⟨by have := HK1.out; omega⟩, by repeat (first | exact Drawn0.refl _ | apply Drawn0.step)⟩
    ·rw [if_neg c7] at H
     have c7b0 : (x11_1 == a2) = false := beq_eq_false_iff_ne.mpr c7
     have c7b1 : (x11_1 != a2) = true := bne_iff_ne.mpr c7
     replace H := Option.bind_eq_some_iff.mp H
     obtain ⟨t102, A80, H⟩ := H
     replace H : ((spec_l01Power.f k1 x11_1).bind fun t103 => (spec_l02With.l0 k1 a0 a1 a2 (wrap64 (x9_1 + (wrap64 (t102 * t103)))) (wrap64 (x10_1 + 1)) (wrap64 (x11_1 + 1)))) = some r := H
     have A8 := Aside0.mk A80
     clear A80
     replace H := Option.bind_eq_some_iff.mp H
     obtain ⟨t103, A90, H⟩ := H
     replace H : (spec_l02With.l0 k1 a0 a1 a2 (wrap64 (x9_1 + (wrap64 (t102 * t103)))) (wrap64 (x10_1 + 1)) (wrap64 (x11_1 + 1))) = some r := H
     have A9 := Aside0.mk A90
     clear A90
     have H' := Aside0.mk H
     clear H
     go_wp2_with (first | ((with_reducible refine gate_callee (f := 61) rfl ?_); refine goesL_ (some 27) rfl rfl Tryd.func61 (by kernel_rfl) rfl #[.int .i64 a0, .int .i64 x10_1] rfl (by (try simp only [List.map_toArray, List.map_cons, List.map_nil]); first | done | rfl | (simp only [List.length_drop, List.length_take]; rfl)) ?_; (with_reducible refine (spec_l01Digit.calls k1 a0 x10_1 t102 _ A8.out).mono ?_); rintro e w' ⟨rfl, ⟨nd, rfl⟩⟩; refine ⟨_, rfl, ?_⟩) | ((with_reducible refine gate_callee (f := 120) rfl ?_); refine goesL_ (some 29) rfl rfl Tryd.func120 (by kernel_rfl) rfl #[.int .i64 x11_1] rfl (by (try simp only [List.map_toArray, List.map_cons, List.map_nil]); first | done | rfl | (simp only [List.length_drop, List.length_take]; rfl)) ?_; (with_reducible refine (spec_l01Power.calls k1 x11_1 t103 _ A9.out).mono ?_); rintro e w' ⟨rfl, ⟨nd, rfl⟩⟩; refine ⟨_, rfl, ?_⟩))
     go_roundg k1
     case measure => have := HK1.out; omega
     case rel => exact ⟨(wrap64 (x9_1 + (wrap64 (t102 * t103)))), (wrap64 (x10_1 + 1)), (wrap64 (x11_1 + 1)), (by first | rfl | (simp; done) | (simp [*]; done) | (simp [wrap64]; done)), (by first | rfl | (simp; done) | (simp [*]; done) | (simp [wrap64]; done)), (by first | rfl | (simp; done) | (simp [*]; done) | (simp [wrap64]; done)), H', ⟨by have := HK1.out; omega⟩, by repeat (first | exact Drawn0.refl _ | apply Drawn0.step)⟩
   ·rw [if_neg c6] at H
    have c6b0 : decide (x11_1 < a1) = false := decide_eq_false c6
    clear c6
    obtain rfl := Option.some.inj H
    simp only [Option.some.injEq, Prod.mk.injEq] at H
    obtain ⟨rfl⟩ := H
    go_wp2
    go_ret
    exact ⟨by first | rfl | (simp; done) | (simp [*]; done) | (simp [wrap64]; done), by repeat (first | exact Drawn0.refl _ | apply Drawn0.step)⟩
/-! ### spec_l00Same: function 173 -/
def spec_l00Same.l0 : Nat → List Int → List Int → Int → Option (Bool)
 | 0, _, _, _ => none
 | k + 1, x0, x1, x5 => if x5 < (x0.length : Int) then (if 0 ≤ x5 then (if x5 < (x1.length : Int) then (if (rd x0 x5) = (rd x1 x5) then (spec_l00Same.l0 k x0 x1 (wrap64 (x5 + 1))) else (some false)) else (none)) else (none)) else (some true)
def spec_l00Same.f (k : Nat) (l0 : List Int) (l1 : List Int) : Option (Bool) := if (l0.length : Int) = (l1.length : Int) then (spec_l00Same.l0 k l0 l1 0) else (some false)
theorem spec_l00Same.mono_l : ∀ k, (∀ y0 y1 y2, LeO (spec_l00Same.l0 k y0 y1 y2) (spec_l00Same.l0 (k + 1) y0 y1 y2))
 | 0 => fun _ _ _ r h => by simp [spec_l00Same.l0] at h
 | k + 1 => by
  have ih0 := spec_l00Same.mono_l k
  ·intro y0 y1 y2
   unfold spec_l00Same.l0
   repeat' first
   | (with_reducible exact ih0 _ _ _)
   | (with_reducible exact LeO.refl _)
   | (with_reducible exact LeO.none _)
   | (with_reducible refine LeO.ite ?_ ?_)
   | (with_reducible refine LeO.bind ?_ (fun _ => ?_))
   | exact ih0 _ _ _
   | exact LeO.none _
   | refine LeO.ite ?_ ?_
   | refine LeO.bind ?_ (fun _ => ?_)
theorem spec_l00Same.mono : ∀ a0 a1 k, LeO (spec_l00Same.f k a0 a1) (spec_l00Same.f (k + 1) a0 a1) := by
 intro a0 a1 k
 have ih0 := spec_l00Same.mono_l k
 unfold spec_l00Same.f
 repeat' first
   | (with_reducible exact ih0 _ _ _)
   | (with_reducible exact LeO.refl _)
   | (with_reducible exact LeO.none _)
   | (with_reducible refine LeO.ite ?_ ?_)
   | (with_reducible refine LeO.bind ?_ (fun _ => ?_))
   | exact ih0 _ _ _
   | exact LeO.none _
   | refine LeO.ite ?_ ?_
   | refine LeO.bind ?_ (fun _ => ?_)
set_option maxHeartbeats 8000000 in
set_option maxRecDepth 100000 in
theorem spec_l00Same.calls (k : Nat) (A0 : Option Addr) (c0 : Nat) (l0 : List Int) (A1 : Option Addr) (c1 : Nat) (l1 : List Int) (r : Bool) (w : World) (hr0 : Kd.C (Kd.int .i64) w A0 l0.length l0) (hc0 : l0.length ≤ c0) (hr1 : Kd.C (Kd.int .i64) w A1 l1.length l1) (hc1 : l1.length ≤ c1) (h : spec_l00Same.f k l0 l1 = some r) :
  Calls Tryd.prog 173 #[.slice A0 l0.length c0, .slice A1 l1.length c1] w fun e w' => e = .returned (.bool r) ∧ Drawn0 w w' := by
 have HR0 := Aside0.mk hr0
 have HC0 := Aside0.mk hc0
 clear hr0 hc0
 have HR1 := Aside0.mk hr1
 have HC1 := Aside0.mk hc1
 clear hr1 hc1
 have H : (if (l0.length : Int) = (l1.length : Int) then (spec_l00Same.l0 k l0 l1 0) else (some false)) = some r := h
 clear h
 by_cases c3 : (l0.length : Int) = (l1.length : Int)
 ·rw [if_pos c3] at H
  have c3b0 : ((l0.length : Int) == (l1.length : Int)) = true := beq_iff_eq.mpr c3
  have c3b1 : ((l0.length : Int) != (l1.length : Int)) = false := bne_eq_false_iff_eq.mpr c3
  have c3b2 : (l0.length == l1.length) = true := by first | simpa using c3 | (simp at c3 ⊢; omega)
  clear c3
  have H' := Aside0.mk H
  clear H
  go_enter Tryd.func173, Tryd.ntmps173
  go_wp2
  repeat (go_quiet (fail); try go_wp2)
  go_loopg [5] k (fun kq v5 w' => ∃ (x5_1 : Int), v5 = .int .i64 x5_1 ∧ Aside0 (spec_l00Same.l0 kq l0 l1 x5_1 = some r) ∧ Aside0 (kq ≤ k) ∧ Drawn0 w w')
  case atStart => exact ⟨(0), (by first | rfl | (simp; done) | (simp [*]; done) | (simp [wrap64]; done)), H', ⟨Nat.le_refl _⟩, by repeat (first | exact Drawn0.refl _ | apply Drawn0.step)⟩
  case round =>
   clear H'
   try clear c1
   try clear p2
   try clear c3
   try clear c3b0
   try clear c3b1
   try clear c3b2
   obtain ⟨x5_1, rfl, HA, HK1, ⟨m1, rfl⟩⟩ := hrel
   cases gk with
   | zero => exact absurd HA.out (by simp [spec_l00Same.l0])
   | succ k1 =>
    have H := HA.out
    clear HA
    simp only [spec_l00Same.l0] at H
    by_cases c4 : x5_1 < (l0.length : Int)
    ·rw [if_pos c4] at H
     have c4b0 : decide (x5_1 < (l0.length : Int)) = true := decide_eq_true c4
     clear c4
     by_cases c5 : 0 ≤ x5_1
     ·rw [if_pos c5] at H
      have c5b0 : decide (0 ≤ x5_1) = true := decide_eq_true c5
      clear c5
      by_cases c6 : x5_1 < (l1.length : Int)
      ·rw [if_pos c6] at H
       have c6b0 : decide (x5_1 < (l1.length : Int)) = true := decide_eq_true c6
       clear c6
       by_cases c7 : (rd l0 x5_1) = (rd l1 x5_1)
       ·rw [if_pos c7] at H
        have c7b0 : ((rd l0 x5_1) == (rd l1 x5_1)) = true := beq_iff_eq.mpr c7
        have c7b1 : ((rd l0 x5_1) != (rd l1 x5_1)) = false := bne_eq_false_iff_eq.mpr c7
        clear c7
        have H' := Aside0.mk H
        clear H
        have p104 : 0 ≤ (x5_1 : Int) := of_decide_eq_true (by first | (with_reducible assumption) | assumption)
        have q104 : x5_1 < (l0.length : Int) := of_decide_eq_true (by first | (with_reducible assumption) | assumption)
        obtain ⟨ad104, e104, hx104_0⟩ := Kd.at_int HR0.out x5_1 p104 q104
        cases e104
        replace p104 := eq_true p104
        replace q104 := eq_true q104
        have p105 : 0 ≤ (x5_1 : Int) := of_decide_eq_true (by first | (with_reducible assumption) | assumption)
        have q105 : x5_1 < (l1.length : Int) := of_decide_eq_true (by first | (with_reducible assumption) | assumption)
        obtain ⟨ad105, e105, hx105_0⟩ := Kd.at_int HR1.out x5_1 p105 q105
        cases e105
        replace p105 := eq_true p105
        replace q105 := eq_true q105
        go_wp2
        repeat (go_quiet (fail); try go_wp2)
        go_roundg k1
        case measure => have := HK1.out; omega
        case rel => exact ⟨(wrap64 (x5_1 + 1)), (by first | rfl | (simp; done) | (simp [*]; done) | (simp [wrap64]; done)), H', ⟨by have := HK1.out; omega⟩, by repeat (first | exact Drawn0.refl _ | apply Drawn0.step)⟩
       ·rw [if_neg c7] at H
        have c7b0 : ((rd l0 x5_1) == (rd l1 x5_1)) = false := beq_eq_false_iff_ne.mpr c7
        have c7b1 : ((rd l0 x5_1) != (rd l1 x5_1)) = true := bne_iff_ne.mpr c7
        obtain rfl := Option.some.inj H
        simp only [Option.some.injEq, Prod.mk.injEq] at H
        obtain ⟨rfl⟩ := H
        have p104 : 0 ≤ (x5_1 : Int) := of_decide_eq_true (by first | (with_reducible assumption) | assumption)
        have q104 : x5_1 < (l0.length : Int) := of_decide_eq_true (by first | (with_reducible assumption) | assumption)
        obtain ⟨ad104, e104, hx104_0⟩ := Kd.at_int HR0.out x5_1 p104 q104
        cases e104
        replace p104 := eq_true p104
        replace q104 := eq_true q104
        have p105 : 0 ≤ (x5_1 : Int) := of_decide_eq_true (by first | (with_reducible assumption) | assumption)
        have q105 : x5_1 < (l1.length : Int) := of_decide_eq_true (by first | (with_reducible assumption) | assumption)
        obtain ⟨ad105, e105, hx105_0⟩ := Kd.at_int HR1.out x5_1 p105 q105
        cases e105
        replace p105 := eq_true p105
        replace q105 := eq_true q105
        go_wp2
        repeat (go_quiet (fail); try go_wp2)
        go_ret
        exact ⟨by first | rfl | (simp; done) | (simp [*]; done) | (simp [wrap64]; done), by repeat (first | exact Drawn0.refl _ | apply Drawn0.step)⟩
      ·rw [if_neg c6] at H
       exact absurd H (by simp)
     ·rw [if_neg c5] at H
      exact absurd H (by simp)
    ·rw [if_neg c4] at H
     have c4b0 : decide (x5_1 < (l0.length : Int)) = false := decide_eq_false c4
     clear c4
     obtain rfl := Option.some.inj H
     simp only [Option.some.injEq, Prod.mk.injEq] at H
     obtain ⟨rfl⟩ := H
     go_wp2
     repeat (go_quiet (fail); try go_wp2)
     go_ret
     exact ⟨by first | rfl | (simp; done) | (simp [*]; done) | (simp [wrap64]; done), by repeat (first | exact Drawn0.refl _ | apply Drawn0.step)⟩
 ·rw [if_neg c3] at H
  have c3b0 : ((l0.length : Int) == (l1.length : Int)) = false := beq_eq_false_iff_ne.mpr c3
  have c3b1 : ((l0.length : Int) != (l1.length : Int)) = true := bne_iff_ne.mpr c3
  have c3b2 : (l0.length == l1.length) = false := by first | simpa using c3 | (simp at c3 ⊢; omega)
  obtain rfl := Option.some.inj H
  simp only [Option.some.injEq, Prod.mk.injEq] at H
  obtain ⟨rfl⟩ := H
  go_enter Tryd.func173, Tryd.ntmps173
  go_wp2
  repeat (go_quiet (fail); try go_wp2)
  go_ret
  exact ⟨by first | rfl | (simp; done) | (simp [*]; done) | (simp [wrap64]; done), by repeat (first | exact Drawn0.refl _ | apply Drawn0.step)⟩
end Go.Proofs.YtbamnonamdpooaaDoor.PW2
namespace Go.Proofs.YtbamnonamdpooaaDoor.PW2
open Go.RowKit Go.Proofs.YtbamnonamdpooaaDoorW.PrintWords Go.Proofs.YtbamnonamdpooaaDoorW.PrintLast Go.Proofs.YtbamnonamdpooaaDoorW.PrintMore PB1
attribute [local go_sem] max2_int min2_int max_two min_two max_three min_three max_four min_four   -- for this text's walks alone
set_option linter.unusedVariables false
set_option linter.unusedSimpArgs false
end Go.Proofs.YtbamnonamdpooaaDoor.PW2
namespace Go.Proofs.YtbamnonamdpooaaDoor.Sq
set_option linter.unusedVariables false
set_option linter.unusedSimpArgs false
open Go Go.RowKit Go.Proofs.YtbamnonamdpooaaDoorW.PrintWords Go.Proofs.YtbamnonamdpooaaDoorW.PrintLast Go.Proofs.YtbamnonamdpooaaDoorW.PrintMore Kp Mg Sm Tdy Wi Tf PB1 PW2 Rg
/-- The column of others with a letter or a pad on a tape. -/
def colT (t tp c d : Nat) : Nat := colN (insN (digs (t - 1) c) tp d)
theorem fin_with : ∀ t : Nat, t < 4 → ∀ tp : Nat, tp < t → ∀ c : Nat, c < wdOf (t - 1) + 1 → ∀ d : Nat, d < 3 → spec_l02With.f 10 (c : Int) (t : Int) (tp : Int) (d : Int) = some ((colT t tp c d : Nat) : Int) := by decide +kernel
theorem fin_col : ∀ t : Nat, t < 4 → ∀ tp : Nat, tp < t → ∀ c : Nat, c < wdOf (t - 1) → ∀ d : Nat, d < 3 → colT t tp c d < wdOf t := by decide +kernel
theorem fin_pad2 : ∀ t : Nat, t < 4 → ∀ tp : Nat, tp < t → ∀ d : Nat, d < 2 → colT t tp (wdOf (t - 1)) d < wdOf t ∧ digs (t - 1) (wdOf (t - 1)) = List.replicate (t - 1) 2 := by decide +kernel
theorem withQ {t tp c d : Nat} (ht : t < 4) (htp : tp < t) (hc : c < wdOf (t - 1) + 1) (hd : d < 3) (W : World) : Calls Tryd.prog 187 #[.int .i64 (c : Int), .int .i64 (t : Int), .int .i64 (tp : Int), .int .i64 (d : Int)] W fun e W' => e = .returned (.int .i64 (colT t tp c d : Int)) ∧ Drawn0 W W' :=
 spec_l02With.calls 10 _ _ _ _ _ W (fin_with t ht tp htp c hc d hd)
set_option maxHeartbeats 2000000 in
theorem same (A : Option Addr) (c : Nat) (a : List Nat) (B : Option Addr) (d : Nat) (b : List Nat) (w : World) (hA : Kd.C (Kd.int .i64) w A a.length (ints a)) (hB : Kd.C (Kd.int .i64) w B b.length (ints b)) (ha : a.length ≤ 1000000) (hb : b.length ≤ 1000000) :
  Calls Tryd.prog 173 #[.slice A a.length c, .slice B b.length d] w fun e w' => e = .returned (.bool (decide (a = b))) ∧ Below w.heap.size w w' := by
 obtain ⟨D, hD⟩ : ∃ D, decide (a = b) = D := ⟨_, rfl⟩
 rw [hD]
 by_cases hl : a.length = b.length
 ·have hl1 : ((a.length : Int) = (b.length : Int)) = True := eq_true (by omega)
  have hl2 : ((a.length : Int) != (b.length : Int)) = false := by simp <;> omega
  have hlq := Aside0.mk hl
  have hDq := Aside0.mk hD
  rw [← hl] at hB
  have hl3 : ((b.length : Int)) = (a.length : Int) := by omega
  rw [← hl] at hb ⊢
  clear hl hD hl1 hl2 hl3
  go_enter Tryd.func173, Tryd.ntmps173
  go_wp2_with fail
  go_loopg [5] a.length (fun kq v5 W => ∃ i : Nat, v5 = .int .i64 (i : Int) ∧ Aside0 (kq = a.length - i) ∧ i ≤ a.length ∧ Aside0 (∀ q (h1 : q < a.length) (h2 : q < b.length), q < i → a[q] = b[q]) ∧ Aside0 (Below w.heap.size w W))
  case atStart => exact ⟨0, rfl, ⟨rfl⟩, Nat.zero_le _, ⟨fun q _ _ h => by omega⟩, ⟨Below.refl _ _⟩⟩
  case round =>
   obtain ⟨i, rfl, hk, hil, hall, hbw⟩ := hrel
   by_cases hi : i < a.length
   ·have hib : i < b.length := by have := hlq.out; omega
    have hi1 : ((i : Int) < (a.length : Int)) = True := eq_true (by omega)
    have h0i : (0 ≤ (i : Int)) = True := eq_true (by omega)
    obtain ⟨a1, rfl, k1⟩ := at_num (Kd.C_below hA hbw.out) i (by rw [ints_length]; exact hi)
    obtain ⟨a2, rfl, k2⟩ := at_num (Kd.C_below hB hbw.out) i (by rw [ints_length]; exact hib)
    rw [ints_get _ _ _ hi] at k1
    rw [ints_get _ _ _ hib] at k2
    obtain ⟨x, hx⟩ : ∃ x, a[i] = x := ⟨_, rfl⟩
    obtain ⟨y, hy⟩ : ∃ y, b[i] = y := ⟨_, rfl⟩
    rw [hx] at k1
    rw [hy] at k2
    by_cases hxy : x = y
    ·subst hxy
     have hn : Aside0 (∀ q (h1 : q < a.length) (h2 : q < b.length), q < i + 1 → a[q] = b[q]) := ⟨fun q h1 h2 hq => by
      rcases Nat.lt_succ_iff_lt_or_eq.1 hq with h | rfl
      ·exact hall.out q h1 h2 h
      ·rw [hx, hy]⟩
     clear hx hy
     go_wp2_with fail
     go_quiet (fail)
     have hb7 := below_step hbw.out (pw_below_drewN (Below.refl _ _) nq)
     generalize wr.drewN nq = wn at *
     go_wp2_with fail
     go_roundg (a.length - (i + 1))
     case measure => have := hk.out; omega
     case rel => exact ⟨i + 1, (by go_num), ⟨by simp⟩, by omega, hn, ⟨hb7⟩⟩
    ·have hn1 : ((x : Int) = (y : Int)) = False := eq_false (by omega)
     have hn2 : ((x : Int) != (y : Int)) = true := by simp <;> omega
     have hDf : D = false := by rw [← hDq.out]; exact decide_eq_false (fun e => by subst e; exact hxy (hx.symm.trans hy))
     subst hDf
     clear hx hy hxy
     go_wp2_with fail
     go_quiet (fail)
     have hb7 := below_step hbw.out (pw_below_drewN (Below.refl _ _) nq)
     generalize wr.drewN nq = wn at *
     go_wp2_with fail
     go_ret
     exact ⟨rfl, hb7⟩
   ·have hi1 : ((i : Int) < (a.length : Int)) = False := eq_false (by omega)
    have hDt : D = true := by
     rw [← hDq.out]
     refine decide_eq_true (List.ext_getElem hlq.out (fun q h1 h2 => hall.out q h1 h2 (by omega)))
    subst hDt
    go_wp2_with fail
    go_ret
    exact ⟨rfl, hbw.out⟩
 ·have hl1 : ((a.length : Int) = (b.length : Int)) = False := eq_false (by omega)
  have hl2 : ((a.length : Int) != (b.length : Int)) = true := by simp <;> omega
  have hDf : D = false := by rw [← hD]; exact decide_eq_false (fun e => hl (by rw [e]))
  subst hDf
  clear hD
  have hbw := Below.refl w.heap.size w
  go_enter Tryd.func173, Tryd.ntmps173
  go_wp2_with fail
  go_ret
  exact ⟨rfl, hbw⟩
/-- The marks behind the first d columns, by lists. -/
def mkL (rows : List (List Nat)) (col : Nat → Nat) (l : List Nat) (n : Nat) : Nat → List Bool
 | 0 => List.replicate n false
 | d + 1 => markL rows (col d) l (mkL rows col l n d)
theorem mkL_length (rows : List (List Nat)) (col : Nat → Nat) (l : List Nat) (n : Nat) : ∀ d, (mkL rows col l n d).length = n
 | 0 => by simp [mkL]
 | d + 1 => by rw [mkL, markL_length, mkL_length rows col l n d]
theorem mkL_next (rows : List (List Nat)) (col : Nat → Nat → Nat) (set : List Bool) (c : Nat) : mkL rows (col c) (idx set) set.length 3 = nextS rows col set c := by
 unfold nextS
 rw [← markL_idx, ← markL_idx, ← markL_idx]
 rfl
theorem markL_snoc (rows : List (List Nat)) (c : Nat) (l : List Nat) (q : Nat) (mk : List Bool) : markL rows c (l ++ [q]) mk = (markL rows c l mk).set (go rows q c) true := by
 unfold markL
 rw [List.foldl_append]
 rfl
theorem idx_to (mk : List Bool) {s : Nat} (h : s < mk.length) : (List.range (s + 1)).filter (fun q => mk.getD q false) = (List.range s).filter (fun q => mk.getD q false) ++ if mk[s] then [s] else [] := by
 rw [List.range_succ, List.filter_append]
 congr 1
 have : mk.getD s false = mk[s] := by simp [List.getD_eq_getElem?_getD, h]
 rw [List.filter_cons, this]
 cases hm : mk[s] <;> simp
theorem mark_at {W : World} {e base b n c i : Nat} {ok : Nat → Prop} {l : List Bool} (h : Kd.bool.R e W base ok (.slice (some ⟨b, 0, none⟩) n c) l) (hi : i < l.length) : W.cell? ⟨b, i, none⟩ = some (.bool l[i]) := by
 obtain ⟨_, _, hC⟩ := Kd.R_reads' h
 obtain ⟨ad, e1, k1⟩ := at_mark hC i hi
 cases e1
 rwa [Addr.add_mid, Nat.zero_add] at k1
theorem lie_at {W : World} {e base b n c i : Nat} {ok : Nat → Prop} {l : List Bool} (h : Kd.bool.R e W base ok (.slice (some ⟨b, 0, none⟩) n c) l) (hi : i < l.length) : W.frozen? ⟨b, i, none⟩ = false ∧ base ≤ b := by
 obtain ⟨g, cg, hv, hgb, _, cells, hcg⟩ := Kd.R_form h (by omega)
 obtain ⟨rfl, _⟩ : b = g ∧ True := by
  simp only [Value.slice.injEq, Option.some.injEq, Addr.mk.injEq] at hv
  exact ⟨hv.1.1, trivial⟩
 exact ⟨blk_frozen hcg i, hgb⟩
set_option maxHeartbeats 8000000 in
set_option maxRecDepth 100000 in
theorem some_ (gp : Nat) (t tp c : Nat) (ht : t < 4) (htp : tp < t) (hc : c < wdOf (t - 1)) (s : Int) (A2 : Option Addr) (na c2 : Nat) (A3 : Option Addr) (c3 : Nat) (rows : List (List Nat)) (hn : rows.length ≤ 1000000) (h0 : 0 < rows.length) (hw : ∀ r ∈ rows, r.length = wdOf t) (hlt : ∀ r ∈ rows, ∀ q ∈ r, q < rows.length) (l : List Nat) (hl : ∀ q ∈ l, q < rows.length) (hll : l.length ≤ 1000000)
  (w : World) (hP : w.heap[gp]? = some (.cells #[.int .i64 (t : Int), .int .i64 s, .slice A2 rows.length c2, .slice A3 rows.length c3] 29 (0, 0))) (h3 : Kd.C (Kd.slice 2 (Kd.int .i64)) w A3 rows.length (rows.map ints)) (A1 : Option Addr) (c1 : Nat) (h1 : Kd.C (Kd.int .i64) w A1 l.length (ints l)) :
  Calls Tryd.prog 172 #[.pointer (some ⟨gp, 0, none⟩), .slice A1 l.length c1, .int .i64 (c : Int), .int .i64 (tp : Int), .bool true] w fun e w' => ∃ v, e = .returned v ∧ Kd.R (Kd.int .i64) 2 w' w.heap.size (fun _ => True) v (ints (idx (mkL rows (colT t tp c) l rows.length 3))) ∧ Below w.heap.size w w' := by
 have m2 : w.cell? ⟨gp, 2, none⟩ = some (.slice A2 rows.length c2) := (blk_cell hP 2).trans rfl
 have hnq := Aside0.mk hn
 have hwq := Aside0.mk hw
 have hltq := Aside0.mk hlt
 clear hw hlt
 go_enter Tryd.func172, Tryd.ntmps172
 go_wp2_with ((with_reducible refine gate_dst (N := 22) rfl ?_); go_loud (
  refine Kd.R_make Kd.bool (w0 := w) w.heap.size 4 rfl (N := 22) rfl 22 _ _ rfl (rows.length : Int) rfl rfl Tryd.underlying22 (.bool false) 1 GwI.info_bool rfl (by decide) (by decide) false (ok := fun _ => True) (okp := fun _ => False) rfl (fun _ h => h.elim) trivial (by omega) (by have := hnq.out; simp; omega) (Below.refl _ _) (Nat.le_refl _) ?_
  intro v2 wb hR2 hb2 hg2 hn2
  rw [Int.toNat_natCast] at hR2
  obtain ⟨g, cg, hv2, _, _, _, _⟩ := Kd.R_form hR2 (by rw [List.length_replicate]; exact h0)
  rw [List.length_replicate] at hv2
  subst hv2))
 clear hn2 hg2 m2
 go_loopg [12] 3 (fun kq v12 W => ∃ d : Nat, v12 = .int .i64 (d : Int) ∧ Aside0 (kq = 3 - d) ∧ d ≤ 3 ∧ Aside0 (Kd.R Kd.bool 4 W w.heap.size (fun _ => True) (.slice (some ⟨g, 0, none⟩) rows.length cg) (mkL rows (colT t tp c) l rows.length d)) ∧ Aside0 (Below w.heap.size w W))
 case atStart => exact ⟨0, rfl, ⟨rfl⟩, by omega, ⟨hR2⟩, ⟨hb2⟩⟩
 case round =>
  clear hR2 hb2
  obtain ⟨wo, rfl⟩ : ∃ wo : World, wo = wr := ⟨_, rfl⟩
  obtain ⟨d, rfl, hq, hd3, hR, hB⟩ := hrel
  by_cases hd : d < 3
  ·have hd1 : ((d : Int) < 3) = True := eq_true (by omega)
   have o0 : wo.cell? ⟨gp, 0, none⟩ = some (.int .i64 (t : Int)) := (blk_cell (blk_below hP hB.out) 0).trans rfl
   have hcw := fin_col t ht tp htp c hc d hd
   have hml := Aside0.mk (mkL_length rows (colT t tp c) l rows.length d)
   obtain ⟨X, hX⟩ : ∃ X, mkL rows (colT t tp c) l rows.length d = X := ⟨_, rfl⟩
   have hXs : Aside0 (mkL rows (colT t tp c) l rows.length (d + 1) = markL rows (colT t tp c d) l X) := ⟨by rw [← hX]; rfl⟩
   have hXl : Aside0 (X.length = rows.length) := ⟨by rw [← hX]; exact hml.out⟩
   rw [hX] at hR
   clear hX
   obtain ⟨CC, hCC⟩ : ∃ CC, Aside0 (colT t tp c d = CC) := ⟨_, ⟨rfl⟩⟩
   rw [hCC.out] at hcw hXs
   have key : (((d : Int) == 2) = true ∧ ((d : Int) = 2) = True) ∨ (((d : Int) == 2) = false ∧ ((d : Int) = 2) = False) := by
    by_cases h : (d : Int) = 2
    ·exact .inl ⟨by simpa using h, eq_true h⟩
    ·exact .inr ⟨by simpa using h, eq_false h⟩
   rcases key with ⟨hz1, hz2⟩ | ⟨hz1, hz2⟩ <;> (
    go_wp2_with (go_at_call 187; go_loud (
     with_reducible refine (withQ ht htp (Nat.lt_succ_of_lt hc) hd _).mono ?_
     rintro e wc ⟨he, hdr⟩
     rw [hCC.out] at he
     subst he
     have hbc := hdr.below
     have hBc := below_step hB.out hbc))
    have hRc := Kd.R_below hR.out hbc
    clear o0 hbc hdr
    go_loopg [14] l.length (fun kz v14 W => ∃ q : Nat, v14 = .int .i64 (q : Int) ∧ Aside0 (kz = l.length - q) ∧ q ≤ l.length ∧ Aside0 (Kd.R Kd.bool 4 W w.heap.size (fun _ => True) (.slice (some ⟨g, 0, none⟩) rows.length cg) (markL rows CC (l.take q) X)) ∧ Aside0 (Below w.heap.size w W))
    case atStart => exact ⟨0, rfl, ⟨rfl⟩, Nat.zero_le _, ⟨hRc⟩, ⟨hBc⟩⟩
    case round =>
     clear hRc hBc
     obtain ⟨q, rfl, hz, hql, hS, hC⟩ := hrel
     by_cases hqs : q < l.length
     ·have hq1 : ((q : Int) < (l.length : Int)) = True := eq_true (by omega)
      have h0q : (0 ≤ (q : Int)) = True := eq_true (by omega)
      obtain ⟨aL, rfl, kL⟩ := at_num (Kd.C_below h1 hC.out) q (by rw [ints_length]; exact hqs)
      rw [ints_get _ _ _ hqs] at kL
      have hyl := hl _ (List.getElem_mem hqs)
      have hst : Aside0 (l.take (q + 1) = l.take q ++ [l[q]]) := ⟨List.take_succ_eq_append_getElem hqs⟩
      obtain ⟨y, hy⟩ : ∃ y, l[q] = y := ⟨_, rfl⟩
      rw [hy] at kL hyl hst
      clear hy
      have o3 : wr.cell? ⟨gp, 3, none⟩ = some (.slice A3 rows.length c3) := (blk_cell (blk_below hP hC.out) 3).trans rfl
      obtain ⟨a2, rfl, A9, c9, e9, hl9, hC9⟩ := at_row (Kd.C_below h3 hC.out) y (by rw [List.length_map]; exact hyl)
      rw [List.getElem_map, ints_length, hwq.out _ (List.getElem_mem hyl)] at e9 hl9 hC9
      have hcr : CC < rows[y].length := by rw [hwq.out _ (List.getElem_mem hyl)]; exact hcw
      obtain ⟨a3, rfl, et⟩ := at_num hC9 CC (by rw [ints_length]; exact hcr)
      rw [ints_get _ _ _ hcr] at et
      have hgo : go rows y CC = rows[y][CC] := by unfold go; simp [List.getD_eq_getElem?_getD, hyl, hcr]
      have hTs : rows[y][CC] < rows.length := hltq.out _ (List.getElem_mem hyl) _ (List.getElem_mem hcr)
      have hst2 : Aside0 (markL rows CC (l.take (q + 1)) X = (markL rows CC (l.take q) X).set rows[y][CC] true) := ⟨by rw [hst.out, markL_snoc, hgo]⟩
      obtain ⟨T, hT⟩ : ∃ T, rows[y][CC] = T := ⟨_, rfl⟩
      rw [hT] at et hTs hst2
      have hfl : (markL rows CC (l.take q) X).length = rows.length := by rw [markL_length, hXl.out]
      obtain ⟨mk, hmk⟩ : ∃ mk, markL rows CC (l.take q) X = mk := ⟨_, rfl⟩
      rw [hmk] at hst2 hfl hS
      have hy1 : ((y : Int) < (rows.length : Int)) = True := eq_true (by omega)
      have h0y : (0 ≤ (y : Int)) = True := eq_true (by omega)
      have hcw1 : ((CC : Int) < ((wdOf t : Nat) : Int)) = True := eq_true (by omega)
      have h0c : (0 ≤ (CC : Int)) = True := eq_true (by omega)
      have hT1 : ((T : Int) < (rows.length : Int)) = True := eq_true (by omega)
      have h0T : (0 ≤ (T : Int)) = True := eq_true (by omega)
      have k2 := mark_at hS.out (i := T) (by omega)
      have fl := lie_at hS.out (i := T) (by omega)
      have f1 := fl.1
      have hgb := fl.2
      obtain ⟨ob, hob⟩ : ∃ ob, mk[T]'(by omega) = ob := ⟨_, rfl⟩
      rw [hob] at k2
      have hS2 := Kd.R_putn (Kd.R_below hS.out (below_drew1 (Below.refl _ _))) (T : Int) true
      clear hgo hT hl9 hC9 hcr hmk fl hob
      have k2d : wr.drew.cell? ⟨g, T, none⟩ = some (.bool ob) := k2
      have f1d : wr.drew.frozen? ⟨g, T, none⟩ = false := f1
      have hC5 := Aside0.mk ((below_step hC.out (below_drew1 (Below.refl wr.heap.size wr))).setCell (p := ⟨g, T, none⟩) hgb (.bool true))
      have hS5 := Aside0.mk hS2
      clear hS2
      go_wp2_with fail
      refine start_ (n := 16) (S := fun w' => w'.cell? ⟨gp, 3, none⟩ = some (.slice (some a2) rows.length c3) ∧ w'.cell? (aL.add q) = some (.int .i64 (y : Int)) ∧ w'.cell? (a2.add y) = some (.slice (some a3) (wdOf t) c9) ∧ w'.cell? (a3.add CC) = some (.int .i64 (T : Int))) (ds := [15]) (.replicate 16 false) (by kernel_rfl) rfl rfl (⟨o3, kL, e9, et⟩) (fun hHeld => ?_)
      refine pure_ (i := 0) (N := some 47) (v := ?_) (a' := ?_) (zb 16 1) rfl rfl (by kernel_rfl) (fun _ _ _ h => h) (Or.inl ⟨by rfl, ?_⟩) ?_ ?_
      rotate_left
      ·intro w'
       go_simp
       with_reducible rfl
      rotate_left
      ·simp only [Act.put, Za, Zb, Zc, i64_w, i32_w]
       rfl
      refine pure_ (i := 1) (N := some 48) (v := ?_) (a' := ?_) (zb 16 3) rfl rfl (by kernel_rfl) (fun _ _ _ h => h) (Or.inl ⟨by rfl, ?_⟩) ?_ ?_
      rotate_left
      ·intro w'
       go_simp
       with_reducible rfl
      rotate_left
      ·simp only [Act.put, Za, Zb, Zc, i64_w, i32_w]
       rfl
      refine pure_ (i := 2) (N := some 49) (v := ?_) (a' := ?_) (zb 16 7) rfl rfl (by kernel_rfl) (fun _ _ _ h => h) (Or.inl ⟨by rfl, ?_⟩) ?_ ?_
      rotate_left
      ·intro w'
       go_simp
       with_reducible rfl
      rotate_left
      ·simp only [Act.put, Za, Zb, Zc, i64_w, i32_w]
       rfl
      refine pure_ (i := 3) (N := some 50) (v := ?_) (a' := ?_) (zb 16 15) rfl rfl (by kernel_rfl) (fun _ _ _ h => h) (Or.inl ⟨by rfl, ?_⟩) ?_ ?_
      rotate_left
      ·intro w'
       go_simp
       with_reducible rfl
      rotate_left
      ·simp only [Act.put, Za, Zb, Zc, i64_w, i32_w]
       rfl
      refine take_ (i := 4) (N := some 51) (v := ?_) (a' := ?_) (zb 16 31) rfl rfl (by kernel_rfl) (fun _ _ _ h => h) (Or.inl ⟨by rfl, ?_⟩) hHeld ?_ ?_
      rotate_left
      ·rintro w' ⟨s1, s2, s3, s4⟩
       go_simp
       with_reducible rfl
      rotate_left
      ·simp only [Act.put, Za, Zb, Zc, i64_w, i32_w]
       rfl
      refine pure_ (i := 5) (N := some 52) (v := ?_) (a' := ?_) (zb 16 63) rfl rfl (by kernel_rfl) (fun _ _ _ h => h) (Or.inl ⟨by rfl, ?_⟩) ?_ ?_
      rotate_left
      ·intro w'
       go_simp
       with_reducible rfl
      rotate_left
      ·simp only [Act.put, Za, Zb, Zc, i64_w, i32_w]
       rfl
      refine pure_ (i := 6) (N := some 53) (v := ?_) (a' := ?_) (zb 16 127) rfl rfl (by kernel_rfl) (fun _ _ _ h => h) (Or.inl ⟨by rfl, ?_⟩) ?_ ?_
      rotate_left
      ·intro w'
       go_simp
       with_reducible rfl
      rotate_left
      ·simp only [Act.put, Za, Zb, Zc, i64_w, i32_w]
       rfl
      refine pure_ (i := 7) (N := some 54) (v := ?_) (a' := ?_) (zb 16 255) rfl rfl (by kernel_rfl) (fun _ _ _ h => h) (Or.inl ⟨by rfl, ?_⟩) ?_ ?_
      rotate_left
      ·intro w'
       go_simp
       with_reducible rfl
      rotate_left
      ·simp only [Act.put, Za, Zb, Zc, i64_w, i32_w]
       rfl
      refine take_ (i := 8) (N := some 55) (v := ?_) (a' := ?_) (zb 16 511) rfl rfl (by kernel_rfl) (fun _ _ _ h => h) (Or.inl ⟨by rfl, ?_⟩) hHeld ?_ ?_
      rotate_left
      ·rintro w' ⟨s1, s2, s3, s4⟩
       go_simp
       with_reducible rfl
      rotate_left
      ·simp only [Act.put, Za, Zb, Zc, i64_w, i32_w]
       rfl
      refine pure_ (i := 9) (N := some 56) (v := ?_) (a' := ?_) (zb 16 1023) rfl rfl (by kernel_rfl) (fun _ _ _ h => h) (Or.inl ⟨by rfl, ?_⟩) ?_ ?_
      rotate_left
      ·intro w'
       go_simp
       with_reducible rfl
      rotate_left
      ·simp only [Act.put, Za, Zb, Zc, i64_w, i32_w]
       rfl
      refine take_ (i := 10) (N := some 57) (v := ?_) (a' := ?_) (zb 16 2047) rfl rfl (by kernel_rfl) (fun _ _ _ h => h) (Or.inl ⟨by rfl, ?_⟩) hHeld ?_ ?_
      rotate_left
      ·rintro w' ⟨s1, s2, s3, s4⟩
       go_simp
       with_reducible rfl
      rotate_left
      ·simp only [Act.put, Za, Zb, Zc, i64_w, i32_w]
       rfl
      refine pure_ (i := 11) (N := some 58) (v := ?_) (a' := ?_) (zb 16 4095) rfl rfl (by kernel_rfl) (fun _ _ _ h => h) (Or.inl ⟨by rfl, ?_⟩) ?_ ?_
      rotate_left
      ·intro w'
       go_simp
       with_reducible rfl
      rotate_left
      ·simp only [Act.put, Za, Zb, Zc, i64_w, i32_w]
       rfl
      refine pure_ (i := 12) (N := some 59) (v := ?_) (a' := ?_) (zb 16 8191) rfl rfl (by kernel_rfl) (fun _ _ _ h => h) (Or.inl ⟨by rfl, ?_⟩) ?_ ?_
      rotate_left
      ·intro w'
       go_simp
       with_reducible rfl
      rotate_left
      ·simp only [Act.put, Za, Zb, Zc, i64_w, i32_w]
       rfl
      refine take_ (i := 13) (N := some 60) (v := ?_) (a' := ?_) (zb 16 16383) rfl rfl (by kernel_rfl) (fun _ _ _ h => h) (Or.inl ⟨by rfl, ?_⟩) hHeld ?_ ?_
      rotate_left
      ·rintro w' ⟨s1, s2, s3, s4⟩
       go_simp
       with_reducible rfl
      rotate_left
      ·simp only [Act.put, Za, Zb, Zc, i64_w, i32_w]
       rfl
      refine pure_ (i := 14) (N := some 61) (v := ?_) (a' := ?_) (zb 16 32767) rfl rfl (by kernel_rfl) (fun _ _ _ h => h) (Or.inl ⟨by rfl, ?_⟩) ?_ ?_
      rotate_left
      ·intro w'
       go_simp
       with_reducible rfl
      rotate_left
      ·simp only [Act.put, Za, Zb, Zc, i64_w, i32_w]
       rfl
      refine last_ (i := 15) (N := none) (zb 16 65535) rfl rfl (by kernel_rfl) (by decide) (fun K hK => ?_)
      refine skip_ (w1 := wr.drew.setCell ⟨g, T, none⟩ (.bool true)) (by rfl) rfl (by first | (go_simp; done) | (go_simp; rfl)) ?_
      refine hK.out _ _ ?_
      clear hK K
      refine done_ (by kernel_rfl) ?_
      go_wp2_with fail
      go_roundg (l.length - (q + 1))
      case measure => have := hz.out; omega
      case rel => exact ⟨q + 1, (by go_num), ⟨by simp⟩, by omega, ⟨by rw [hst2.out]; exact hS5.out⟩, hC5⟩
     ·have hq1 : ((q : Int) < (l.length : Int)) = False := eq_false (by omega)
      have he : q = l.length := by omega
      subst he
      rw [List.take_length, ← hXs.out] at hS
      go_wp2_with fail
      go_roundg (3 - (d + 1))
      case measure => have := hq.out; omega
      case rel => exact ⟨d + 1, (by go_num), ⟨by simp⟩, by omega, hS, hC⟩)
  ·have hd1 : ((d : Int) < 3) = False := eq_false (by omega)
   have he : d = 3 := by omega
   subst he
   have hml := mkL_length rows (colT t tp c) l rows.length 3
   obtain ⟨mk, hmk⟩ : ∃ mk, mkL rows (colT t tp c) l rows.length 3 = mk := ⟨_, rfl⟩
   rw [hmk] at hml hR
   have hmq := Aside0.mk hml
   have hmkq := Aside0.mk hmk
   clear hmk hml
   go_wp2_with fail
   have hz0 : SR (wo.alloc (.cells #[] 2)) wo.heap.size (.slice (some ⟨wo.heap.size, 0, none⟩) 0 0) (ints []) := sr_zero _ _ (Nat.le_refl _)
   have hbz := below_alloc (Below.refl wo.heap.size wo) (.cells #[] 2)
   go_loopg [15, 16] rows.length (fun kq v15 v16 W => ∃ (i : Nat) (out : List Nat) (Ar : Option Addr) (cr : Nat), v15 = .slice Ar out.length cr ∧ v16 = .int .i64 (i : Int) ∧ Aside0 (kq = rows.length - i) ∧ i ≤ rows.length ∧ Aside0 ((List.range i).filter (fun q => mk.getD q false) = out) ∧ out.length ≤ i ∧ Aside0 (Kd.R (Kd.int .i64) 2 W wo.heap.size (fun _ => True) (.slice Ar out.length cr) (ints out)) ∧ Aside0 (Below wo.heap.size wo W))
   case atStart => exact ⟨0, [], _, _, rfl, rfl, ⟨rfl⟩, Nat.zero_le _, ⟨rfl⟩, Nat.le_refl _, ⟨hz0⟩, ⟨hbz⟩⟩
   case round =>
    clear hz0 hbz
    obtain ⟨i, out, Ar, cr, rfl, rfl, hk, hil, ho, hol, hO, hbO⟩ := hrel
    by_cases hi : i < rows.length
    ·have hi1 : ((i : Int) < (rows.length : Int)) = True := eq_true (by omega)
     have h0i : (0 ≤ (i : Int)) = True := eq_true (by omega)
     have him : i < mk.length := by have := hmq.out; omega
     have k1 : wr.cell? ⟨g, i, none⟩ = some (.bool mk[i]) := (hbO.out.cell (World.block_lt_of_cell? wo _ (mark_at hR.out him))).trans (mark_at hR.out him)
     have hix := Aside0.mk (idx_to mk him)
     cases hm : mk[i] with
     | false =>
      rw [hm] at k1
      have ho2 : Aside0 ((List.range (i + 1)).filter (fun q => mk.getD q false) = out) := ⟨by rw [hix.out, hm, if_neg (by decide), List.append_nil]; exact ho.out⟩
      clear hm
      go_wp2_with fail
      go_roundg (rows.length - (i + 1))
      case measure => have := hk.out; omega
      case rel => exact ⟨i + 1, out, Ar, cr, rfl, (by go_num), ⟨by simp⟩, by omega, ho2, by omega, hO, hbO⟩
     | true =>
      rw [hm] at k1
      have ho2 : Aside0 ((List.range (i + 1)).filter (fun q => mk.getD q false) = out ++ [i]) := ⟨by rw [hix.out, hm, if_pos rfl, ho.out]⟩
      have hnl := hnq.out
      clear hm
      go_wp2_with ((with_reducible refine gate_builtin (b := .append) (xs := #[.tmp 73, .tmp 75]) rfl ?_); go_loud (at_builtin; refine R_append' (Kd.int .i64) (w0 := wo) wo.heap.size rfl (.tmp 73) (.tmp 75) 86 2 (.int .i64 0) 8 rfl Tryd.underlying86 Ro.info_long1 rfl (by decide) (by decide) (.slice Ar out.length cr) (ints out) (i : Int) [.int .i64 (i : Int)] (fun _ => True) (fun _ => False) _ (by simp) rfl rfl rfl (fun _ h => h.elim) (fun _ _ => trivial) hO.out hbO.out (Below.size hbO.out) (by rw [ints_length]; omega) ?_; intro v6 w6 hR6 hb6 hg6 hat6; have ei : ints out ++ [(i : Int)] = ints (out ++ [i]) := (by rw [Wi.ints_app]; rfl); rw [ei] at hR6; clear ei; obtain ⟨A6, c6, hv6⟩ := Kd.R_slice hR6; rw [ints_length] at hv6; subst hv6))
      go_roundg (rows.length - (i + 1))
      case measure => have := hk.out; omega
      case rel => exact ⟨i + 1, out ++ [i], A6, c6, (by simp), (by go_num), ⟨by simp⟩, by omega, ho2, by rw [List.length_append, List.length_singleton]; omega, ⟨hR6⟩, ⟨hb6⟩⟩
    ·have hi1 : ((i : Int) < (rows.length : Int)) = False := eq_false (by omega)
     have hfin : out = idx mk := by
      rw [← ho.out]
      unfold idx
      rw [hmq.out, show i = rows.length by omega]
     have hO2 := hO.out
     have hBf := below_step hB.out hbO.out
     go_wp2_with fail
     go_ret
     refine ⟨_, rfl, ?_, hBf⟩
     rw [hmkq.out, ← hfin]
     exact Kd.R_lower hO2 (Below.size hB.out)
end Go.Proofs.YtbamnonamdpooaaDoor.Sq
namespace Go.Proofs.YtbamnonamdpooaaDoor.Sq
set_option linter.unusedVariables false
set_option linter.unusedSimpArgs false
open Go Go.RowKit Go.Proofs.YtbamnonamdpooaaDoorW.PrintWords Go.Proofs.YtbamnonamdpooaaDoorW.PrintLast Go.Proofs.YtbamnonamdpooaaDoorW.PrintMore Kp Mg Sm Tdy Wi Tf PB1 PW2 Rg
/-- What stands in memory. -/
structure Es (w0 : World) (gS cS n : Nat) (seen : List Bool) (vL : Value) (list : List Nat) (W : World) : Prop where
 row : Kd.R Kd.bool 4 W w0.heap.size (fun _ => True) (.slice (some ⟨gS, 0, none⟩) n cS) seen
 lst : SR W w0.heap.size vL (ints list)
 bel : Below w0.heap.size w0 W
section
variable {w0 : World} {gS cS n : Nat} {seen : List Bool} {vL : Value} {list : List Nat} {W W' : World}
theorem Es.step (h : Es w0 gS cS n seen vL list W) (hb : Below W.heap.size W W') : Es w0 gS cS n seen vL list W' := ⟨Kd.R_below h.row hb, Kd.R_below h.lst hb, below_step h.bel hb⟩
theorem Es.put (h : Es w0 gS cS n seen vL list W) (hg : w0.heap.size ≤ gS) (x : Nat) : Es w0 gS cS n (seen.set x true) vL list (W.setCell ⟨gS, x, none⟩ (.bool true)) := by
 have hs := Keep.set W ⟨gS, x, none⟩ (.bool true)
 exact ⟨Kd.R_putn h.row (x : Int) true, R_off h.lst hs (Off.row h.row (by decide)), h.bel.setCell hg _⟩
theorem Es.push {v1 : Value} {list' : List Nat} (h : Es w0 gS cS n seen vL list W) (hg : W.grownBy W' vL.ownBlock) (hR : SR W' w0.heap.size v1 (ints list')) (hb : Below w0.heap.size w0 W') : Es w0 gS cS n seen v1 list' W' :=
 ⟨R_off h.row (Keep.grown hg) (Off.row h.lst (by decide)), hR, hb⟩
end
def cntF (l : List Bool) : Nat := (l.filter (fun b => !b)).length
theorem cntF_set {l : List Bool} {q : Nat} (hq : q < l.length) (h : l[q] = false) : cntF (l.set q true) + 1 = cntF l := by
 unfold cntF
 induction l generalizing q with
 | nil => simp at hq
 | cons a l ih =>
  cases q with
  | zero =>
   have : a = false := h
   subst this
   simp
  | succ q =>
   have := ih (q := q) (by simpa using hq) (by simpa using h)
   cases a <;> simp at this ⊢ <;> omega
theorem cntF_rep (n : Nat) : cntF (List.replicate n false) = n := by simp [cntF]
theorem set_getD {l : List Bool} {q x : Nat} (hq : q < l.length) : (l.set q true).getD x false = true ↔ x = q ∨ l.getD x false = true := by
 rw [List.getD_eq_getElem?_getD, List.getD_eq_getElem?_getD, List.getElem?_set]
 by_cases h : q = x
 ·subst h
  simp [hq]
 ·rw [if_neg h]
  constructor
  ·exact fun h => .inr h
  ·rintro (h2 | h2)
   ·exact absurd h2.symm h
   ·exact h2
/-- What is seen are the states in the list, each once. -/
structure Seen (n : Nat) (seen : List Bool) (list : List Nat) : Prop where
 len : seen.length = n
 iff_ : ∀ x, seen.getD x false = true ↔ x ∈ list
 cnt : list.length + cntF seen = n
theorem Seen.start (n : Nat) : Seen n (List.replicate n false) [] := ⟨by simp, fun x => by
 rw [List.getD_eq_getElem?_getD, List.getElem?_replicate]
 split <;> simp, by simp [cntF_rep]⟩
theorem Seen.more {n : Nat} {seen : List Bool} {list : List Nat} (h : Seen n seen list) {x : Nat} (hx : x < n) (hn : x ∉ list) : Seen n (seen.set x true) (list ++ [x]) := by
 have hxl : x < seen.length := by rw [h.len]; exact hx
 have hf : seen[x] = false := by
  have : ¬ seen.getD x false = true := fun h2 => hn ((h.iff_ x).1 h2)
  rw [List.getD_eq_getElem?_getD, List.getElem?_eq_getElem hxl] at this
  simpa using this
 have hc := cntF_set hxl hf
 refine ⟨by rw [List.length_set]; exact h.len, fun y => ?_, ?_⟩
 ·rw [set_getD hxl, h.iff_ y, List.mem_append, List.mem_singleton]
  exact ⟨fun h => h.elim .inr .inl, fun h => h.elim .inr .inl⟩
 ·have := h.cnt
  rw [List.length_append, List.length_singleton]
  omega
theorem idx_nodup (set : List Bool) : (idx set).Nodup := by
 unfold idx
 exact List.Pairwise.filter _ List.nodup_range
theorem sucI {rows : List (List Nat)} {y p0 p1 pd d T : Nat} {lj : List Nat} (hpd : pd = if d = 0 then p0 else p1) (hT : go rows y pd = T) (hin : T ∈ lj) (hs : 0 < d → go rows y p0 ∈ lj) (hd : d < 2) : (0 < d + 1 → go rows y p0 ∈ lj) ∧ (1 < d + 1 → go rows y p1 ∈ lj) := by
 have : d = 0 ∨ d = 1 := by omega
 rcases this with rfl | rfl
 ·rw [if_pos rfl] at hpd
  subst hpd
  exact ⟨fun _ => by rw [hT]; exact hin, fun h => absurd h (by omega)⟩
 ·rw [if_neg (by decide)] at hpd
  subst hpd
  exact ⟨fun _ => hs (by omega), fun _ => by rw [hT]; exact hin⟩
set_option maxHeartbeats 16000000 in
set_option maxRecDepth 100000 in
theorem ends (gp : Nat) (t tp : Nat) (ht : t < 4) (ht1 : 0 < t) (htp : tp < t) (s : Int) (A2 : Option Addr) (c2 : Nat) (A3 : Option Addr) (c3 : Nat) (accs : List Bool) (rows : List (List Nat)) (hn : rows.length ≤ 1000000) (h0 : 0 < rows.length) (hcl : Closed (wdOf t) rows accs) (set : List Bool) (hset : set.length = rows.length)
  (hwide : ∀ W, Calls Tryd.prog 60 #[.int .i64 ((t - 1 : Nat) : Int)] W fun e W' => e = .returned (.int .i64 ((wdOf (t - 1) : Nat) : Int)) ∧ Below W.heap.size W W')
  (w : World) (hP : w.heap[gp]? = some (.cells #[.int .i64 (t : Int), .int .i64 s, .slice A2 rows.length c2, .slice A3 rows.length c3] 29 (0, 0))) (h2 : Kd.C Kd.bool w A2 rows.length accs) (h3 : Kd.C (Kd.slice 2 (Kd.int .i64)) w A3 rows.length (rows.map ints)) (A1 : Option Addr) (c1 : Nat) (h1 : Kd.C (Kd.int .i64) w A1 (idx set).length (ints (idx set))) :
  Calls Tryd.prog 174 #[.pointer (some ⟨gp, 0, none⟩), .slice A1 (idx set).length c1, .int .i64 (tp : Int)] w fun e w' => e = .returned (.bool (accS rows accs (colT t tp (wdOf (t - 1)) 0) (colT t tp (wdOf (t - 1)) 1) set)) ∧ Below w.heap.size w w' := by
 obtain ⟨u, hu⟩ : ∃ u, t - 1 = u := ⟨_, rfl⟩
 rw [hu] at hwide ⊢
 obtain ⟨p0, hp0⟩ : ∃ p, colT t tp (wdOf u) 0 = p := ⟨_, rfl⟩
 obtain ⟨p1, hp1⟩ : ∃ p, colT t tp (wdOf u) 1 = p := ⟨_, rfl⟩
 have hf0 := (fin_pad2 t ht tp htp 0 (by decide)).1
 have hf1 := (fin_pad2 t ht tp htp 1 (by decide)).1
 rw [hu, hp0] at hf0
 rw [hu, hp1] at hf1
 have hw0 := Aside0.mk (fun W => withQ (c := wdOf (t - 1)) (d := 0) ht htp (Nat.lt_succ_self _) (by decide) W)
 have hw1 := Aside0.mk (fun W => withQ (c := wdOf (t - 1)) (d := 1) ht htp (Nat.lt_succ_self _) (by decide) W)
 rw [hu, hp0] at hw0
 rw [hu, hp1] at hw1
 rw [hp0, hp1]
 have m2 : w.cell? ⟨gp, 2, none⟩ = some (.slice A2 rows.length c2) := (blk_cell hP 2).trans rfl
 have wt : wrap64 ((t : Int) - 1) = (u : Int) := by unfold wrap64; omega
 have wt2 : (t : Int) - 1 = (u : Int) := by omega
 have hnq := Aside0.mk hn
 have hclq := Aside0.mk hcl
 have hsetq := Aside0.mk hset
 have hil : (idx set).length ≤ rows.length := by rw [← hset]; exact idx_length set
 have hxl : ∀ q ∈ idx set, q < rows.length := fun q hq => by rw [← hset]; exact idx_lt hq
 have hnd := Aside0.mk (idx_nodup set)
 have hmem := Aside0.mk (fun q => @mem_idx set q)
 obtain ⟨L, hL⟩ : ∃ L, idx set = L := ⟨_, rfl⟩
 rw [hL] at h1 hil hxl hnd hmem ⊢
 obtain ⟨RR, hRR⟩ : ∃ RR, Aside0 (accS rows accs p0 p1 set = RR) := ⟨_, ⟨rfl⟩⟩
 rw [hRR.out]
 clear hL hcl hset hp0 hp1 hu
 go_enter Tryd.func174, Tryd.ntmps174
 go_wp2_with ((with_reducible refine gate_dst (N := 19) rfl ?_); go_loud (
  refine Kd.R_make Kd.bool (w0 := w) w.heap.size 4 rfl (N := 19) rfl 22 _ _ rfl (rows.length : Int) rfl rfl Tryd.underlying22 (.bool false) 1 GwI.info_bool rfl (by decide) (by decide) false (ok := fun _ => True) (okp := fun _ => False) rfl (fun _ h => h.elim) trivial (by omega) (by have := hnq.out; simp; omega) (Below.refl _ _) (Nat.le_refl _) ?_
  intro v2 wb hR2 hb2 hg2 hn2
  rw [Int.toNat_natCast] at hR2
  obtain ⟨g, cg, hv2, hgb, _, _, _⟩ := Kd.R_form hR2 (by rw [List.length_replicate]; exact h0)
  rw [List.length_replicate] at hv2
  subst hv2))
 have hE0 : Es w g cg rows.length (List.replicate rows.length false) (.slice (some ⟨wb.heap.size, 0, none⟩) 0 0) [] (wb.alloc (.cells #[] 2)) :=
  ⟨Kd.R_below hR2 (below_alloc (Below.refl _ _) _), sr_zero _ _ (Below.size hb2), below_alloc hb2 _⟩
 clear hn2 hg2 m2 hR2 hb2
 go_loopg [8, 9] L.length (fun kq v8 v9 W => ∃ (i : Nat) (seen : List Bool) (AL : Option Addr) (cL : Nat), v8 = .slice AL i cL ∧ v9 = .int .i64 (i : Int) ∧ Aside0 (kq = L.length - i) ∧ i ≤ L.length ∧ Aside0 (Seen rows.length seen (L.take i)) ∧ Aside0 (Es w g cg rows.length seen (.slice AL i cL) (L.take i) W))
 case atStart => exact ⟨0, _, _, _, rfl, rfl, ⟨rfl⟩, Nat.zero_le _, ⟨Seen.start _⟩, ⟨hE0⟩⟩
 case round =>
  clear hE0
  obtain ⟨i, seen, AL, cL, rfl, rfl, hk, hiL, hS, h⟩ := hrel
  replace h := h.out
  by_cases hi : i < L.length
  ·have hi1 : ((i : Int) < (L.length : Int)) = True := eq_true (by omega)
   have h0i : (0 ≤ (i : Int)) = True := eq_true (by omega)
   obtain ⟨aL, rfl, kL⟩ := at_num (Kd.C_below h1 h.bel) i (by rw [ints_length]; exact hi)
   rw [ints_get _ _ _ hi] at kL
   have hyl := hxl _ (List.getElem_mem hi)
   have hst : Aside0 (L.take (i + 1) = L.take i ++ [L[i]]) := ⟨List.take_succ_eq_append_getElem hi⟩
   have hnin : L[i] ∉ L.take i := fun hm => by
    have h : (L.take i ++ L[i] :: L.drop (i + 1)).Nodup := by rw [← List.drop_eq_getElem_cons hi, List.take_append_drop]; exact hnd.out
    exact (List.nodup_append.1 h).2.2 _ hm _ List.mem_cons_self rfl
   have hS2 := Aside0.mk (hS.out.more hyl hnin)
   have htl : Aside0 ((L.take i).length = i) := ⟨by rw [List.length_take]; omega⟩
   obtain ⟨y, hy⟩ : ∃ y, L[i] = y := ⟨_, rfl⟩
   rw [hy] at kL hyl hst hS2
   have hyq := Aside0.mk hy
   clear hy hnin
   have hsl := hS.out.len
   have k2 := mark_at h.row (i := y) (by omega)
   have fl := lie_at h.row (i := y) (by omega)
   have f1 := fl.1
   obtain ⟨ob, hob⟩ : ∃ ob, seen[y]'(by omega) = ob := ⟨_, rfl⟩
   rw [hob] at k2
   have hy1 : ((y : Int) < (rows.length : Int)) = True := eq_true (by omega)
   have h0y : (0 ≤ (y : Int)) = True := eq_true (by omega)
   have h5 := h.put hgb y
   have kL5 : (wr.setCell ⟨g, y, none⟩ (.bool true)).cell? (aL.add i) = some (.int .i64 (y : Int)) := by
    obtain ⟨aL', e, kk⟩ := at_num (Kd.C_below h1 h5.bel) i (by rw [ints_length]; exact hi)
    cases e
    rw [ints_get _ _ _ hi] at kk
    rwa [hyq.out] at kk
   clear fl hob h
   go_wp2_with ((with_reducible refine gate_builtin (b := .append) (xs := #[.tmp 33, .tmp 38]) rfl ?_); go_loud (at_builtin; refine R_append' (Kd.int .i64) (w0 := w) w.heap.size rfl (.tmp 33) (.tmp 38) 86 2 (.int .i64 0) 8 rfl Tryd.underlying86 Ro.info_long1 rfl (by decide) (by decide) (.slice AL i cL) (ints (L.take i)) (y : Int) [.int .i64 (y : Int)] (fun _ => True) (fun _ => False) _ (by simp) rfl rfl rfl (fun _ h => h.elim) (fun _ _ => trivial) h5.lst h5.bel (Below.size h5.bel) (by have := htl.out; have := hnq.out; rw [ints_length]; omega) ?_; intro v6 w6 hR6 hb6 hg6 hat6; have ei : ints (L.take i) ++ [(y : Int)] = ints (L.take (i + 1)) := (by rw [hst.out, Wi.ints_app]; rfl); rw [ei] at hR6; clear ei; obtain ⟨A6, c6, hv6⟩ := Kd.R_slice hR6; have e6 : (ints (L.take (i + 1))).length = i + 1 := (by rw [ints_length, List.length_take]; omega); rw [e6] at hv6; clear e6; subst hv6; have h7 := h5.push hg6 hR6 hb6))
   go_roundg (L.length - (i + 1))
   case measure => have := hk.out; omega
   case rel => exact ⟨i + 1, seen.set y true, A6, c6, rfl, (by go_num), ⟨by simp⟩, by omega, ⟨by rw [hst.out]; exact hS2.out⟩, ⟨h7⟩⟩
  ·have hi1 : ((i : Int) < (L.length : Int)) = False := eq_false (by omega)
   have he : i = L.length := by omega
   subst he
   have hS2 := hS.out
   rw [List.take_length] at hS2 h
   have o0 : wr.cell? ⟨gp, 0, none⟩ = some (.int .i64 (t : Int)) := (blk_cell (blk_below hP h.bel) 0).trans rfl
   go_wp2_with (go_at_call 60; go_loud (
    with_reducible refine (hwide _).mono ?_
    rintro e wc ⟨rfl, hbc⟩
    have h7 := h.step hbc))
   clear o0 h
   have hFrom : Aside0 (∀ q ∈ L, From rows p0 p1 set q) := ⟨fun q hq => From.start ((hmem.out q).1 hq)⟩
   go_loopg [8, 11] (rows.length + 1) (fun kq v8 v11 W => ∃ (i : Nat) (seen : List Bool) (li : List Nat) (AL : Option Addr) (cL : Nat), v8 = .slice AL li.length cL ∧ v11 = .int .i64 (i : Int) ∧ Aside0 (kq = (li.length - i) + cntF seen + 1) ∧ i ≤ li.length ∧ Aside0 (Seen rows.length seen li) ∧ Aside0 (∀ q ∈ li, q < rows.length) ∧ Aside0 (∀ q ∈ li, From rows p0 p1 set q) ∧ Aside0 (∀ q ∈ L, q ∈ li) ∧ Aside0 (∀ j, j < i → ∀ h : j < li.length, go rows li[j] p0 ∈ li ∧ go rows li[j] p1 ∈ li ∧ accs.getD li[j] false = false) ∧ Aside0 (Es w g cg rows.length seen (.slice AL li.length cL) li W))
   case atStart => exact ⟨0, seen, L, _, _, rfl, rfl, ⟨by have := hS2.cnt; omega⟩, Nat.zero_le _, ⟨hS2⟩, ⟨hxl⟩, hFrom, ⟨fun q h => h⟩, ⟨fun j hj => by omega⟩, ⟨h7⟩⟩
   case round =>
    clear h7 hS2 hS hFrom
    obtain ⟨wo, rfl⟩ : ∃ wo : World, wo = wr := ⟨_, rfl⟩
    obtain ⟨i, seen, li, AL, cL, rfl, rfl, hk, hil2, hS, hxl2, hF, hLl, hdone, h⟩ := hrel
    replace h := h.out
    by_cases hi : i < li.length
    ·have hi1 : ((i : Int) < (li.length : Int)) = True := eq_true (by omega)
     have h0i : (0 ≤ (i : Int)) = True := eq_true (by omega)
     have hCl := (Kd.R_reads' h.lst).2.2
     obtain ⟨aL, rfl, kL⟩ := at_num hCl i (by rw [ints_length]; exact hi)
     rw [ints_get _ _ _ hi] at kL
     have hyl := hxl2.out _ (List.getElem_mem hi)
     have hyF := hF.out _ (List.getElem_mem hi)
     have hya := hyl
     obtain ⟨y, hy⟩ : ∃ y, li[i] = y := ⟨_, rfl⟩
     rw [hy] at kL hyl hyF hya
     have hyq := Aside0.mk hy
     have hyFq := Aside0.mk hyF
     clear hy hCl hyF
     have hal : accs.length = rows.length := hclq.out.len.symm
     have o2 : wo.cell? ⟨gp, 2, none⟩ = some (.slice A2 rows.length c2) := (blk_cell (blk_below hP h.bel) 2).trans rfl
     have hC2 := Kd.C_below h2 h.bel
     obtain ⟨a2, rfl, kA⟩ := at_mark hC2 y (by omega)
     have gA : accs.getD y false = accs[y] := by simp [List.getD_eq_getElem?_getD, hal, hyl]
     have hy1 : ((y : Int) < (rows.length : Int)) = True := eq_true (by omega)
     have h0y : (0 ≤ (y : Int)) = True := eq_true (by omega)
     cases hA : accs[y]'(by omega) with
     | true =>
      rw [hA] at kA
      have hRt : RR = true := by
       rw [← hRR.out]
       exact accS_from hyFq.out (by rw [gA, hA])
      subst hRt
      clear hA gA hal hya hC2
      go_wp2_with fail
      go_quiet (fail)
      have h8 := h.step (pw_below_drewN (Below.refl _ _) nq)
      generalize wo.drewN nq = wn at *
      go_wp2_with fail
      go_ret
      exact ⟨rfl, h8.bel⟩
     | false =>
      rw [hA] at kA
      have hAq : Aside0 (accs.getD y false = false) := ⟨by rw [gA, hA]⟩
      clear hA gA hal hya hC2
      go_wp2_with fail
      go_quiet (fail)
      have h8 := h.step (pw_below_drewN (Below.refl _ _) nq)
      clear kL kA o2 h
      generalize wo.drewN nq = wn at *
      go_wp2_with fail
      go_loopg [8, 12] 2 (fun kz v8 v12 W => ∃ (d : Nat) (sn : List Bool) (lj : List Nat) (A' : Option Addr) (c' : Nat), v8 = .slice A' lj.length c' ∧ v12 = .int .i64 (d : Int) ∧ Aside0 (kz = 2 - d) ∧ d ≤ 2 ∧ Aside0 (Seen rows.length sn lj) ∧ Aside0 (∀ q ∈ lj, q < rows.length) ∧ Aside0 (∀ q ∈ lj, From rows p0 p1 set q) ∧ Aside0 (∃ m, lj = li ++ m) ∧ Aside0 ((0 < d → go rows y p0 ∈ lj) ∧ (1 < d → go rows y p1 ∈ lj)) ∧ Aside0 (Es w g cg rows.length sn (.slice A' lj.length c') lj W))
      case atStart => exact ⟨0, seen, li, _, _, rfl, rfl, ⟨rfl⟩, by omega, hS, hxl2, hF, ⟨[], by simp⟩, ⟨fun h => absurd h (by omega), fun h => absurd h (by omega)⟩, ⟨h8⟩⟩
      case round =>
       clear h8
       obtain ⟨d, sn, lj, A', c', rfl, rfl, hz, hd2, hSn, hxj, hFj, hpre, hsuc, hE⟩ := hrel
       replace hE := hE.out
       by_cases hd : d < 2
       ·have hd1 : ((d : Int) < 2) = True := eq_true (by omega)
        obtain ⟨pd, hpd, hpw, hpc, hgo1⟩ : ∃ pd, Aside0 (pd = if d = 0 then p0 else p1) ∧ pd < wdOf t ∧ Aside0 (∀ W, Calls Tryd.prog 187 #[.int .i64 ((wdOf u : Nat) : Int), .int .i64 (t : Int), .int .i64 (tp : Int), .int .i64 (d : Int)] W fun e W' => e = .returned (.int .i64 (pd : Int)) ∧ Drawn0 W W') ∧ Aside0 (∀ q, From rows p0 p1 set q → From rows p0 p1 set (go rows q pd)) := by
         have : d = 0 ∨ d = 1 := by omega
         rcases this with rfl | rfl
         ·exact ⟨p0, ⟨rfl⟩, hf0, ⟨hw0.out⟩, ⟨fun q h => From.one h⟩⟩
         ·exact ⟨p1, ⟨rfl⟩, hf1, ⟨hw1.out⟩, ⟨fun q h => From.two h⟩⟩
        obtain ⟨m, hm⟩ := hpre.out
        have hij : i < lj.length := by rw [hm, List.length_append]; omega
        have hji : lj[i] = y := by
         rw [← hyq.out]
         simp only [hm]
         rw [List.getElem_append_left hi]
        have hmq := Aside0.mk hm
        have hCl := (Kd.R_reads' hE.lst).2.2
        obtain ⟨aJ, rfl, kL⟩ := at_num hCl i (by rw [ints_length]; exact hij)
        rw [ints_get _ _ _ hij, hji] at kL
        have o0 : wr.cell? ⟨gp, 0, none⟩ = some (.int .i64 (t : Int)) := (blk_cell (blk_below hP hE.bel) 0).trans rfl
        have o3 : wr.cell? ⟨gp, 3, none⟩ = some (.slice A3 rows.length c3) := (blk_cell (blk_below hP hE.bel) 3).trans rfl
        obtain ⟨a3, rfl, A9, c9, e9, hl9, hC9⟩ := at_row (Kd.C_below h3 hE.bel) y (by rw [List.length_map]; exact hyl)
        rw [List.getElem_map, ints_length, hclq.out.wide _ (List.getElem_mem hyl)] at e9 hl9 hC9
        have hcr : pd < rows[y].length := by rw [hclq.out.wide _ (List.getElem_mem hyl)]; exact hpw
        obtain ⟨a4, rfl, et⟩ := at_num hC9 pd (by rw [ints_length]; exact hcr)
        rw [ints_get _ _ _ hcr] at et
        have hgo : go rows y pd = rows[y][pd] := by unfold go; simp [List.getD_eq_getElem?_getD, hyl, hcr]
        have hTs : rows[y][pd] < rows.length := hclq.out.lt _ (List.getElem_mem hyl) _ (List.getElem_mem hcr)
        have hFT := hgo1.out y hyFq.out
        rw [← hgo] at et hTs
        obtain ⟨T, hT⟩ : ∃ T, go rows y pd = T := ⟨_, rfl⟩
        rw [hT] at et hTs hFT
        have hTq := Aside0.mk hT
        have hFTq := Aside0.mk hFT
        clear hgo hT hFT hm hji hCl hl9 hC9 hcr
        have hsl := hSn.out.len
        have k2 := mark_at hE.row (i := T) (by omega)
        have fl := lie_at hE.row (i := T) (by omega)
        have f1 := fl.1
        have gT : sn.getD T false = sn[T]'(by omega) := by simp [List.getD_eq_getElem?_getD, hsl, hTs]
        have hij1 : ((i : Int) < (lj.length : Int)) = True := eq_true (by omega)
        have hpw1 : ((pd : Int) < ((wdOf t : Nat) : Int)) = True := eq_true (by omega)
        have h0p : (0 ≤ (pd : Int)) = True := eq_true (by omega)
        have hT1 : ((T : Int) < (rows.length : Int)) = True := eq_true (by omega)
        have h0T : (0 ≤ (T : Int)) = True := eq_true (by omega)
        clear fl
        have hEq := Aside0.mk hE
        cases hsT : sn[T]'(by omega) with
        | true =>
         rw [hsT] at k2
         have hin : Aside0 (T ∈ lj) := ⟨(hSn.out.iff_ T).1 (by rw [gT, hsT])⟩
         clear hsT gT hE
         go_wp2_with fail
         go_quiet ((go_at_call 187; (with_reducible refine (hpc.out _).mono ?_); rintro e w' ⟨rfl, ⟨nd, rfl⟩⟩; (try first | exact ⟨rfl, _, World.drewN_drewN _ _ _⟩ | exact ⟨rfl, _, Eq.trans (World.drewN_drewN _ _ _) (congrArg (World.drewN _) (Nat.add_assoc _ _ _))⟩)))
         have h9 := hEq.out.step (pw_below_drewN (Below.refl _ _) nq)
         have k2n : (wr.drewN nq).cell? ⟨g, T, none⟩ = some (.bool true) := k2
         clear k2 kL o0 o3 e9 et f1
         generalize wr.drewN nq = wz at *
         go_wp2_with fail
         go_roundg (2 - (d + 1))
         case measure => have := hz.out; omega
         case rel => exact ⟨d + 1, sn, lj, _, _, rfl, (by go_num), ⟨by simp⟩, by omega, hSn, hxj, hFj, hpre, ⟨sucI hpd.out hTq.out hin.out (fun h => hsuc.out.1 h) (by omega)⟩, ⟨h9⟩⟩
        | false =>
         rw [hsT] at k2
         have hnin : T ∉ lj := fun hm2 => by
          have := (hSn.out.iff_ T).2 hm2
          rw [gT, hsT] at this
          cases this
         have hSn2 := Aside0.mk (hSn.out.more hTs hnin)
         clear hsT gT hE hnin
         go_wp2_with fail
         go_quiet ((go_at_call 187; (with_reducible refine (hpc.out _).mono ?_); rintro e w' ⟨rfl, ⟨nd, rfl⟩⟩; (try first | exact ⟨rfl, _, World.drewN_drewN _ _ _⟩ | exact ⟨rfl, _, Eq.trans (World.drewN_drewN _ _ _) (congrArg (World.drewN _) (Nat.add_assoc _ _ _))⟩)))
         have h9 := hEq.out.step (pw_below_drewN (Below.refl _ _) nq)
         have k2n : (wr.drewN nq).cell? ⟨g, T, none⟩ = some (.bool false) := k2
         have f1n : (wr.drewN nq).frozen? ⟨g, T, none⟩ = false := f1
         have h10 := h9.put hgb T
         have hljn : lj.length ≤ 1000000 := by have := hSn.out.cnt; have := hnq.out; omega
         clear k2 kL o0 o3 e9 et f1 h9
         generalize wr.drewN nq = wz at *
         go_wp2_with ((with_reducible refine gate_builtin (b := .append) (xs := #[.tmp 94, .tmp 96]) rfl ?_); go_loud (at_builtin; refine R_append' (Kd.int .i64) (w0 := w) w.heap.size rfl (.tmp 94) (.tmp 96) 86 2 (.int .i64 0) 8 rfl Tryd.underlying86 Ro.info_long1 rfl (by decide) (by decide) (.slice (some aJ) lj.length c') (ints lj) (T : Int) [.int .i64 (T : Int)] (fun _ => True) (fun _ => False) _ (by simp) rfl rfl rfl (fun _ h => h.elim) (fun _ _ => trivial) h10.lst h10.bel (Below.size h10.bel) (by rw [ints_length]; omega) ?_; intro v6 w6 hR6 hb6 hg6 hat6; have ei : ints lj ++ [(T : Int)] = ints (lj ++ [T]) := (by rw [Wi.ints_app]; rfl); rw [ei] at hR6; clear ei; obtain ⟨A6, c6, hv6⟩ := Kd.R_slice hR6; rw [ints_length] at hv6; subst hv6; have h11 := h10.push hg6 hR6 hb6))
         go_roundg (2 - (d + 1))
         case measure => have := hz.out; omega
         case rel =>
          have hin : Aside0 (T ∈ lj ++ [T]) := ⟨by simp⟩
          exact ⟨d + 1, sn.set T true, lj ++ [T], A6, c6, (by simp), (by go_num), ⟨by simp⟩, by omega, hSn2, ⟨fun q hq => (List.mem_append.1 hq).elim (hxj.out q) (fun h => by rw [List.mem_singleton.1 h]; exact hTs)⟩, ⟨fun q hq => (List.mem_append.1 hq).elim (hFj.out q) (fun h => by rw [List.mem_singleton.1 h]; exact hFTq.out)⟩, ⟨m ++ [T], by rw [← List.append_assoc, ← hmq.out]⟩, ⟨sucI hpd.out hTq.out hin.out (fun h => List.mem_append_left _ (hsuc.out.1 h)) (by omega)⟩, ⟨h11⟩⟩
       ·have hd1 : ((d : Int) < 2) = False := eq_false (by omega)
        obtain ⟨m, hm⟩ := hpre.out
        have hcj := hSn.out.cnt
        have hci := hS.out.cnt
        have hml : lj.length = li.length + m.length := by rw [hm, List.length_append]
        have hij : i < lj.length := by omega
        have hmq := Aside0.mk hm
        clear hm
        go_wp2_with fail
        go_roundg ((lj.length - (i + 1)) + cntF sn + 1)
        case measure => have := hk.out; omega
        case rel =>
         refine ⟨i + 1, sn, lj, A', c', rfl, (by go_num), ⟨rfl⟩, by omega, hSn, hxj, hFj, ⟨fun q hq => by rw [hmq.out]; exact List.mem_append_left _ (hLl.out q hq)⟩, ⟨fun j hj hjl => ?_⟩, ⟨hE⟩⟩
         have hjl2 : j < li.length := by omega
         have ej : lj[j] = li[j] := by
          simp only [hmq.out]
          rw [List.getElem_append_left hjl2]
         rw [ej]
         rcases Nat.lt_succ_iff_lt_or_eq.1 hj with h2 | rfl
         ·obtain ⟨x1, x2, x3⟩ := hdone.out j h2 hjl2
          exact ⟨by rw [hmq.out]; exact List.mem_append_left _ x1, by rw [hmq.out]; exact List.mem_append_left _ x2, x3⟩
         ·rw [hyq.out]
          exact ⟨hsuc.out.1 (by omega), hsuc.out.2 (by omega), hAq.out⟩
    ·have hi1 : ((i : Int) < (li.length : Int)) = False := eq_false (by omega)
     have hRf : RR = false := by
      rw [← hRR.out]
      refine accS_done (list := li) (fun q hq => hLl.out q ((hmem.out q).2 hq)) (fun q hq => ?_) (fun q hq => ?_)
      ·obtain ⟨j, hj, e⟩ := List.getElem_of_mem hq
       obtain ⟨x1, x2, x3⟩ := hdone.out j (by omega) hj
       rw [e] at x1 x2
       exact ⟨x1, x2⟩
      ·obtain ⟨j, hj, e⟩ := List.getElem_of_mem hq
       obtain ⟨x1, x2, x3⟩ := hdone.out j (by omega) hj
       rwa [e] at x3
     subst hRf
     have hbel := h.bel
     go_wp2_with fail
     go_ret
     exact ⟨rfl, hbel⟩
end Go.Proofs.YtbamnonamdpooaaDoor.Sq
namespace Go.Proofs.YtbamnonamdpooaaDoor.Rg
set_option linter.unusedVariables false
set_option linter.unusedSimpArgs false
open Go.RowKit Go.Proofs.YtbamnonamdpooaaDoorW.PrintWords Go.Proofs.YtbamnonamdpooaaDoorW.PrintLast Go.Proofs.YtbamnonamdpooaaDoorW.PrintMore Mp Kp Mg Tdy
/-- The next state and tapes; none where a tape that has ended goes on. -/
def nxR (rows : List (List Nat)) (size : Nat) (en : Nat → Nat → Option Nat) (x c : Nat) : Option Nat := (en (x % size) c).map (fun e => ((rows.getD (x / size) []).getD c 0) * size + e)
def enI (en : Nat → Nat → Option Nat) (e c : Nat) : Int := match en e c with
 | none => -1
 | some e' => (e' : Int)
theorem w_pow {tapes size : Nat} (hsz : 2 ^ tapes = size) (h : size ≤ 8) : wrap64 ((2 : Int) ^ tapes) = (size : Int) := by
 have e : ((2 : Int) ^ tapes) = (size : Int) := by rw [← hsz]; simp
 rw [e]
 unfold wrap64
 omega
theorem w_mul {a size n : Nat} (hn : a * size = n) (h : n ≤ 800000) : wrap64 ((a : Int) * (size : Int)) = (n : Int) := by
 have e : ((a : Int) * (size : Int)) = (n : Int) := by rw [← hn]; simp
 rw [e]
 unfold wrap64
 omega
theorem w_div {x size : Nat} (h : x / size ≤ 1000000) : wrap64 ((x : Int) / (size : Int)) = ((x / size : Nat) : Int) := by
 rw [← Int.natCast_ediv]
 generalize x / size = q at *
 unfold wrap64
 omega
theorem w_nat {n : Nat} (h : n ≤ 1000000) : wrap64 (n : Int) = (n : Int) := by
 unfold wrap64
 omega
theorem w_add {a b : Nat} (h : a + b ≤ 1000000) : wrap64 ((a : Int) + (b : Int)) = ((a + b : Nat) : Int) := by
 rw [← Int.natCast_add]
 exact w_nat h
theorem y_lt {y n size N e : Nat} (hy : y < n) (hN : n * size = N) (he : e < size) : y * size + e < N := by
 have h : (y + 1) * size ≤ n * size := Nat.mul_le_mul_right _ hy
 rw [Nat.succ_mul, hN] at h
 omega
theorem size_le {tapes size : Nat} (htp : tapes ≤ 3) (hsz : 2 ^ tapes = size) : 0 < size ∧ size ≤ 8 := by
 have : tapes = 0 ∨ tapes = 1 ∨ tapes = 2 ∨ tapes = 3 := by omega
 rcases this with rfl | rfl | rfl | rfl <;> simp at hsz <;> omega
theorem cut_lt {a b n size : Nat} (h : a < b) (hn : b * size = n) (h0 : 0 < size) : a * size < n := by
 rw [← hn]
 exact Nat.mul_lt_mul_of_pos_right h h0
theorem info_longs : (Tryd.prog.info? 86).map (fun i => (i.zero, i.size, i.bytes)) = some (some (.slice none 0 0), 1, 24) := by kernel_rfl
theorem info_long : (Tryd.prog.info? 2).map (fun i => (i.zero, i.size, i.bytes)) = some (some (.int .i64 0), 1, 8) := by kernel_rfl
set_option maxHeartbeats 8000000 in
set_option maxRecDepth 100000 in
theorem right (tapes : Nat) (htp : tapes ≤ 3) (size : Nat) (hsz : 2 ^ tapes = size) (start : Nat) (accs : List Bool) (rows : List (List Nat)) (wd : Nat) (hwd1 : 0 < wd) (hwd2 : wd ≤ 30) (hcl : Closed wd rows accs) (hn : rows.length ≤ 100000) (hst : start < rows.length)
  (en : Nat → Nat → Option Nat) (hen : ∀ e c e', e < size → c < wd → en e c = some e' → e' < size)
  (hwide : ∀ W, Calls Tryd.prog 60 #[.int .i64 tapes] W fun e W' => e = .returned (.int .i64 wd) ∧ Below W.heap.size W W')
  (hended : ∀ W e c, e < size → c < wd → Calls Tryd.prog 157 #[.int .i64 tapes, .int .i64 (e : Int), .int .i64 (c : Int)] W fun r W' => r = .returned (.int .i64 (enI en e c)) ∧ Below W.heap.size W W')
  (w : World) (gp : Nat) (AA : Option Addr) (ca : Nat) (AN : Option Addr) (cn : Nat) (hP : w.heap[gp]? = some (.cells #[.int .i64 tapes, .int .i64 start, .slice AA accs.length ca, .slice AN rows.length cn] 29 (0, 0)))
  (hA : Kd.C Kd.bool w AA accs.length accs) (hN : Kd.C (Kd.slice 2 (Kd.int .i64)) w AN rows.length (rows.map ints)) :
  Calls Tryd.prog 108 #[.pointer (some ⟨gp, 0, none⟩)] w fun e w' => ∃ (vA vN : Value) (li : List Nat) (rws : List (List Int)), e = .returned (.agg #[.int .i64 tapes, .int .i64 0, vA, vN]) ∧
   Kd.R Kd.bool 4 w' w.heap.size (fun _ => True) vA (li.map (fun x => accs.getD (x / size) false) ++ [false]) ∧ Kd.R (Kd.slice 2 (Kd.int .i64)) 86 w' w.heap.size (fun _ => True) vN (fixTo li.length li.length rws ++ [List.replicate wd (li.length : Int)]) ∧
   li[0]? = some (start * size) ∧ rws.length = li.length ∧ (∀ r ∈ rws, r.length = wd) ∧ (∀ (k x : Nat) (r : List Int), li[k]? = some x → rws[k]? = some r → RowOk (nxR rows size en) li x r) ∧ (∀ x ∈ li, x < rows.length * size) ∧ li.length ≤ rows.length * size ∧ Below w.heap.size w w' := by
 have hlen := Aside0.mk hcl.len
 have hsz1 := size_le htp hsz
 have hw1 := Aside0.mk (w_pow hsz hsz1.2)
 have hN8 : rows.length * size ≤ 800000 := Nat.le_trans (Nat.mul_le_mul hn hsz1.2) (by decide)
 clear hsz
 have hgp := blk_lt hP
 have P1 := blk_alloc hP (.cells #[.int .i64 0, .int .i64 0, .slice none 0 0, .slice none 0 0] 29)
 have d0 : (w.alloc (.cells #[.int .i64 0, .int .i64 0, .slice none 0 0, .slice none 0 0] 29)).cell? ⟨gp, 0, none⟩ = some (.int .i64 tapes) := (blk_cell P1 0).trans rfl
 have d2 : (w.alloc (.cells #[.int .i64 0, .int .i64 0, .slice none 0 0, .slice none 0 0] 29)).cell? ⟨gp, 2, none⟩ = some (.slice AA accs.length ca) := (blk_cell P1 2).trans rfl
 obtain ⟨NN, hNN⟩ : ∃ NN : Nat, rows.length * size = NN := ⟨_, rfl⟩
 rw [hNN] at hN8
 have hw2 : Aside0 (wrap64 ((accs.length : Int) * (size : Int)) = (NN : Int)) := ⟨by rw [← hlen.out]; exact w_mul hNN hN8⟩
 obtain ⟨s0, hS0⟩ : ∃ s0 : Nat, start * size = s0 := ⟨_, rfl⟩
 have hs0N : s0 < NN := by rw [← hS0]; exact cut_lt hst hNN hsz1.1
 have hw3 := Aside0.mk (w_mul hS0 (Nat.le_trans (Nat.le_of_lt hs0N) hN8))
 have hNN2 := Aside0.mk hNN
 have hS02 := Aside0.mk hS0
 clear hNN hS0
 go_enter Tryd.func108, Tryd.ntmps108
 go_wp2_with ((with_reducible refine gate_dst (N := 34) rfl ?_); go_loud (simp only [hw1.out, hw2.out]; refine Kd.R_make (Kd.int .i64) (w0 := w) w.heap.size 2 rfl (N := 34) rfl 86 _ _ rfl (NN : Int) rfl rfl Tryd.underlying86 (.int .i64 0) 8 info_long rfl (by decide) (by decide) (0 : Int) (ok := fun _ => True) (okp := fun _ => False) rfl (fun _ h => h.elim) trivial (by omega) (by simp; omega) (below_alloc (Below.refl _ _) _) (by simp) ?_; intro v2 w2 hR2 hb2 hg2 hn2; simp only [Int.toNat_natCast] at hR2; obtain ⟨gT, cT, hv2, hgT, _, _⟩ := Kd.R_form hR2 (by simp; omega); subst hv2; rw [List.length_replicate] at hR2; have h2 : R0 w gp #[.int .i64 tapes, .int .i64 start, .slice AA accs.length ca, .slice AN rows.length cn] (.slice (some ⟨gT, 0, none⟩) NN cT) (List.replicate NN 0) w2 := ⟨(Keep.grown hg2).obj P1 (by simp), (Keep.grown hg2).obj (blk_new _ _) (by simp), hR2, hb2⟩; clear hR2 hb2 hg2 hn2))
 clear P1 d0 d2
 go_loopg [6] NN (fun kq v6 wr => ∃ i : Nat, v6 = .int .i64 (i : Int) ∧ Aside0 (kq = NN - i) ∧ i ≤ NN ∧ Aside0 (R0 w gp #[.int .i64 tapes, .int .i64 start, .slice AA accs.length ca, .slice AN rows.length cn] (.slice (some ⟨gT, 0, none⟩) NN cT) (List.replicate i (-1) ++ List.replicate (NN - i) 0) wr))
 case atStart => exact ⟨0, rfl, ⟨by simp⟩, Nat.zero_le _, ⟨by simpa using h2⟩⟩
 case round =>
  clear h2
  obtain ⟨wo, rfl⟩ : ∃ wo : World, wo = wr := ⟨_, rfl⟩
  obtain ⟨i, rfl, hkq, hil, hr⟩ := hrel
  replace hr := hr.out
  by_cases hlt : i < NN
  ·have hl : (List.replicate i (-1 : Int) ++ List.replicate (NN - i) 0).length = NN := by simp; omega
   have k1 := sr_at hr.tab (i := i) (by rw [hl]; exact hlt)
   obtain ⟨hbT, cells, hcT⟩ := row_blk hr.tab (by rw [hl]; omega)
   have f1 : wo.frozen? ⟨gT, i, none⟩ = false := blk_frozen hcT i
   have h3 := hr.set hbT i (-1)
   rw [fill_step NN i hlt] at h3
   generalize (List.replicate i (-1 : Int) ++ List.replicate (NN - i) 0)[i]'(by rw [hl]; exact hlt) = oi at *
   clear hl hcT cells
   have hlt1 : ((i : Int) < (NN : Int)) = True := eq_true (by omega)
   have h0i : (0 ≤ (i : Int)) = True := eq_true (by omega)
   go_wp2_with fail
   go_roundg (NN - (i + 1))
   case measure => have := hkq.out; omega
   case rel => exact ⟨i + 1, (by go_num), ⟨by simp⟩, by omega, ⟨h3⟩⟩
  ·have hii : i = NN := by omega
   subst i
   have hlt1 : ((NN : Int) < (NN : Int)) = False := eq_false (by omega)
   have hl0 : List.replicate NN (-1 : Int) ++ List.replicate (NN - NN) 0 = List.replicate NN (-1) := by simp
   rw [hl0] at hr
   clear hl0
   have d0 : wo.cell? ⟨gp, 0, none⟩ = some (.int .i64 tapes) := (blk_cell hr.bP 0).trans rfl
   have d1 : wo.cell? ⟨gp, 1, none⟩ = some (.int .i64 start) := (blk_cell hr.bP 1).trans rfl
   obtain ⟨hbT, cells, hcT⟩ := row_blk hr.tab (by rw [List.length_replicate]; omega)
   have hgT1 := blk_lt hcT
   have hr1 := hr.step (below_alloc (Below.refl _ _) (.cells #[.int .i64 (s0 : Int)] 2))
   have d3 : (wo.alloc (.cells #[.int .i64 (s0 : Int)] 2)).cell? ⟨gp, 1, none⟩ = some (.int .i64 start) := (blk_cell hr1.bP 1).trans rfl
   have k1 := sr_at hr1.tab (i := s0) (by rw [List.length_replicate]; exact hs0N)
   have f1 : (wo.alloc (.cells #[.int .i64 (s0 : Int)] 2)).frozen? ⟨gT, s0, none⟩ = false := blk_frozen (blk_alloc hcT _) s0
   have hlt2 : ((s0 : Int) < (NN : Int)) = True := eq_true (by omega)
   have h0s : (0 ≤ (s0 : Int)) = True := eq_true (by omega)
   clear hcT cells
   have hr2 := (hr.set hbT s0 0).step (below_alloc (Below.refl _ _) (.cells #[.int .i64 (s0 : Int)] 2))
   have d4 : ((wo.setCell ⟨gT, s0, none⟩ (.int .i64 0)).alloc (.cells #[.int .i64 (s0 : Int)] 2)).cell? ⟨gp, 0, none⟩ = some (.int .i64 tapes) := (blk_cell hr2.bP 0).trans rfl
   have hw3e := hw3.out
   go_wp2_with fail
   clear hw3e d3 d4 k1 f1 hr1 d0 d1
   have hsw := Below.size hr.bel
   have hszw : (wo.setCell ⟨gT, s0, none⟩ (.int .i64 0)).heap.size = wo.heap.size := by simp [World.setCell]
   have hL : SR ((wo.setCell ⟨gT, s0, none⟩ (.int .i64 0)).alloc (.cells #[.int .i64 (s0 : Int)] 2)) w.heap.size (.slice (some ⟨wo.heap.size, 0, none⟩) 1 1) [(s0 : Int)] := by
    rw [← hszw]
    exact R_one (Kd.int .i64) _ _ _ (by rw [hszw]; exact hsw) (okp := fun _ => False) (cs := [.int .i64 (s0 : Int)]) rfl (fun _ h => h.elim) trivial
   generalize hWW : (wo.setCell ⟨gT, s0, none⟩ (.int .i64 0)).alloc (.cells #[.int .i64 (s0 : Int)] 2) = wx at *
   have hwx : wx.heap.size = wo.heap.size + 1 := by rw [← hWW]; simp [World.setCell]
   generalize hgg : wo.heap.size + 1 = gV at *
   have h5 : Rt w gp #[.int .i64 tapes, .int .i64 start, .slice AA accs.length ca, .slice AN rows.length cn] tapes gV (.slice (some ⟨gT, 0, none⟩) NN cT) ((List.replicate NN (-1 : Int)).set s0 0) (.slice (some ⟨wo.heap.size, 0, none⟩) 1 1) [(s0 : Int)] (.slice none 0 0) [] (.slice none 0 0) [] [] wd (wx.alloc (.cells #[.int .i64 tapes, .int .i64 0, .slice none 0 0, .slice none 0 0] 29)) :=
    ⟨blk_alloc hr2.bP _, blk_alloc hr2.bR _, blk_at _ _ _ hwx.symm, Kd.R_below hr2.tab (below_alloc (Below.refl _ _) _), Kd.R_below hL (below_alloc (Below.refl _ _) _), Kd.R_nil _ _ _ _ _, Kd.R_nil _ _ _ _ _, (fun i a r ha => by simp at ha), (fun a ha => by cases ha), List.Pairwise.nil, (fun k hk e => by cases hk; simp [Value.ownBlock] at e; omega), rfl, below_alloc hr2.bel _⟩
   have hTab := Aside0.mk (tab_start hs0N)
   have hVs : Aside0 (w.heap.size < gV) := ⟨by omega⟩
   have hgV : Aside0 (gp ≠ gV) := ⟨by omega⟩
   clear hr2 hr hL hWW hwx hszw hsw hgT1 hkq hgg
   go_loopg [7, 9] NN (fun kq v7 v9 wr => ∃ (i : Nat) (li : List Nat) (tab : List Int) (A7 : Option Addr) (c7 : Nat) (vA vN : Value) (hs : List (Nat × Nat)) (rws : List (List Int)), v7 = .slice A7 li.length c7 ∧ v9 = .int .i64 (i : Int) ∧ Aside0 (kq = NN - i) ∧ i ≤ li.length ∧ Aside0 (Tab NN li tab) ∧ Aside0 (li[0]? = some s0) ∧ Aside0 (rws.length = i) ∧ Aside0 (∀ r ∈ rws, r.length = wd) ∧ Aside0 (∀ (k x : Nat) (r : List Int), li[k]? = some x → rws[k]? = some r → RowOk (nxR rows size en) li x r) ∧
    Aside0 (Rt w gp #[.int .i64 tapes, .int .i64 start, .slice AA accs.length ca, .slice AN rows.length cn] tapes gV (.slice (some ⟨gT, 0, none⟩) NN cT) tab (.slice A7 li.length c7) (ints li) vA ((li.take i).map (fun x => accs.getD (x / size) false)) vN hs rws wd wr))
   case atStart => exact ⟨0, [s0], _, _, _, _, _, [], [], rfl, rfl, ⟨by simp⟩, Nat.zero_le _, hTab, ⟨rfl⟩, ⟨rfl⟩, ⟨fun r hr => by cases hr⟩, ⟨fun k x r _ hr => by simp at hr⟩, ⟨h5⟩⟩
   case round =>
    clear h5 hTab
    obtain ⟨wo, rfl⟩ : ∃ wo : World, wo = wr := ⟨_, rfl⟩
    obtain ⟨i, li, tab, A7, c7, vA, vN, hs, rws, rfl, rfl, hkq, hil, hTab, hli0, hrl, hrw, hok, hR⟩ := hrel
    replace hR := hR.out
    by_cases hlt : i < li.length
    ·have hli := hTab.out.le
     have hlsz : Aside0 (li[i] < NN) := ⟨hTab.out.lt _ (List.getElem_mem hlt)⟩
     obtain ⟨ad, rfl, k1⟩ := sr_at' hR.lst (i := i) (by rw [ints_length]; exact hlt)
     rw [ints_get li i _ hlt] at k1
     have hxi := Aside0.mk (List.getElem?_eq_getElem hlt)
     generalize li[i] = x at *
     have hlt1 : ((i : Int) < (li.length : Int)) = True := eq_true (by omega)
     have h0i : (0 ≤ (i : Int)) = True := eq_true (by omega)
     have hsx : x / size < rows.length := by
      rw [Nat.div_lt_iff_lt_mul hsz1.1, hNN2.out]
      exact hlsz.out
     have hxm : x % size < size := Nat.mod_lt _ hsz1.1
     have hw4 : wrap64 ((x : Int) / (size : Int)) = ((x / size : Nat) : Int) := w_div (Nat.le_trans (Nat.le_of_lt hsx) (Nat.le_trans hn (by decide)))
     obtain ⟨sx, hsx2⟩ : ∃ sx : Nat, Aside0 (x / size = sx) := ⟨_, ⟨rfl⟩⟩
     simp only [hsx2.out] at hw4 hsx
     go_wp2_with fail
     simp only [hw4]
     clear hw4 k1
     have hE := below_alloc (Below.refl wo.heap.size wo) (.cells #[] 2)
     have hR6 := hR.step hE
     have hr0 : SR (wo.alloc (.cells #[] 2)) wo.heap.size (.slice (some ⟨wo.heap.size, 0, none⟩) 0 0) [] := sr_zero wo _ (Nat.le_refl _)
     have hr6 := Kd.R_lower hr0 (Below.size hR.bel)
     have hfr : Clear (Value.slice (some ⟨wo.heap.size, 0, none⟩) 0 0) (Value.slice (some ⟨gT, 0, none⟩) NN cT) (Value.slice (some ad) li.length c7) hs := by
      intro k hk
      cases hk
      exact ⟨fun e => by have := Kd.R_lt hR.tab _ e.symm; simp only at this; omega, fun e => by have := Kd.R_lt hR.lst _ e.symm; simp only at this; omega, fun h hh e => absurd (hR.lt hh hR.len) (by rw [e]; exact Nat.lt_irrefl _)⟩
     have hfr2 := Aside0.mk hfr
     clear hfr hE hr0
     go_loopg [7, 11, 12] wd (fun kq v7 v11 v12 wq => ∃ (c : Nat) (li2 m : List Nat) (tab2 : List Int) (A7 : Option Addr) (c7 : Nat) (Ar : Option Addr) (cr : Nat) (r : List Int), v7 = .slice A7 li2.length c7 ∧ v11 = .slice Ar r.length cr ∧ v12 = .int .i64 (c : Int) ∧ Aside0 (kq = wd - c) ∧ c ≤ wd ∧ Aside0 (r.length = c) ∧ Aside0 (Tab NN li2 tab2) ∧ Aside0 (li2 = li ++ m) ∧ Aside0 (RowOk (nxR rows size en) li2 x r) ∧
      Aside0 (Clear (Value.slice Ar r.length cr) (Value.slice (some ⟨gT, 0, none⟩) NN cT) (Value.slice A7 li2.length c7) hs) ∧ Aside0 (SR wq w.heap.size (.slice Ar r.length cr) r) ∧
      Aside0 (Rt w gp #[.int .i64 tapes, .int .i64 start, .slice AA accs.length ca, .slice AN rows.length cn] tapes gV (.slice (some ⟨gT, 0, none⟩) NN cT) tab2 (.slice A7 li2.length c7) (ints li2) vA ((li.take i).map (fun x => accs.getD (x / size) false)) vN hs rws wd wq))
     case atStart => exact ⟨0, li, [], tab, _, _, _, _, [], rfl, rfl, rfl, ⟨by simp⟩, Nat.zero_le _, ⟨rfl⟩, hTab, ⟨by simp⟩, ⟨fun c hc => by cases hc⟩, hfr2, ⟨hr6⟩, ⟨hR6⟩⟩
     case round =>
      clear hr6 hR6 hfr2 hTab
      obtain ⟨c, li2, m, tab2, A7, c7, Ar, cr, r, rfl, rfl, rfl, hkc, hcw, hrc, hTab, hlm, hro, hfr, hr, hQ⟩ := hrel
      replace hr := hr.out
      replace hQ := hQ.out
      have hil2 : i < li2.length := by rw [hlm.out, List.length_append]; omega
      have hlx : Aside0 (li2[i] = x) := ⟨by
       have h := get_app m hxi.out
       rw [← hlm.out, List.getElem?_eq_getElem hil2] at h
       exact Option.some.inj h⟩
      obtain ⟨a7, rfl, e1⟩ := sr_at' hQ.lst (i := i) (by rw [ints_length]; exact hil2)
      rw [ints_get li2 i _ hil2, hlx.out] at e1
      have e0 : wr.cell? ⟨gp, 0, none⟩ = some (.int .i64 tapes) := (blk_cell hQ.bP 0).trans rfl
      by_cases hc : c < wd
      ·have hlt2 : ((c : Int) < (wd : Int)) = True := eq_true (by omega)
       go_wp2_with (go_at_call 60; (with_reducible refine (hwide _).mono ?_); rintro e w4 ⟨rfl, hb4⟩; replace hQ := hQ.step hb4; replace hr := Kd.R_below hr hb4; clear e0 e1)
       have e0 : w4.cell? ⟨gp, 0, none⟩ = some (.int .i64 tapes) := (blk_cell hQ.bP 0).trans rfl
       have e1 : w4.cell? (a7.add i) = some (.int .i64 (x : Int)) := by
        obtain ⟨ad, e, k⟩ := sr_at' hQ.lst (i := i) (by rw [ints_length]; exact hil2)
        cases e
        rw [ints_get li2 i _ hil2, hlx.out] at k
        exact k
       have hi2 : ((i : Int) < (li2.length : Int)) = True := eq_true (by omega)
       have hsz0 : (size = 0) = False := eq_false (by omega)
       have htm : Int.tmod (x : Int) (size : Int) = ((x % size : Nat) : Int) := rfl
       have hQd := hQ.step (below_drew1 (Below.refl _ _))
       have hrd := Kd.R_below hr (below_drew1 (Below.refl _ _))
       refine start_ (n := 13) (S := fun w' => w'.cell? ⟨gp, 0, none⟩ = some (.int .i64 tapes) ∧ w'.cell? (a7.add i) = some (.int .i64 (x : Int))) (ds := []) (.replicate 13 false) (by kernel_rfl) rfl rfl (⟨e0, e1⟩) (fun hHeld => ?_)
       refine pure_ (i := 0) (N := some 86) (v := ?_) (a' := ?_) (zb 13 1) rfl rfl (by kernel_rfl) (fun _ _ _ h => h) (Or.inl ⟨by rfl, ?_⟩) ?_ ?_
       rotate_left
       ·intro w'
        go_simp
        with_reducible rfl
       rotate_left
       ·simp only [Act.put, Za, Zb, Zc, i64_w, i32_w]
        rfl
       refine pure_ (i := 1) (N := some 87) (v := ?_) (a' := ?_) (zb 13 3) rfl rfl (by kernel_rfl) (fun _ _ _ h => h) (Or.inl ⟨by rfl, ?_⟩) ?_ ?_
       rotate_left
       ·intro w'
        go_simp
        with_reducible rfl
       rotate_left
       ·simp only [Act.put, Za, Zb, Zc, i64_w, i32_w]
        rfl
       refine pure_ (i := 2) (N := some 88) (v := ?_) (a' := ?_) (zb 13 7) rfl rfl (by kernel_rfl) (fun _ _ _ h => h) (Or.inl ⟨by rfl, ?_⟩) ?_ ?_
       rotate_left
       ·intro w'
        go_simp
        with_reducible rfl
       rotate_left
       ·simp only [Act.put, Za, Zb, Zc, i64_w, i32_w]
        rfl
       refine pure_ (i := 4) (N := some 90) (v := ?_) (a' := ?_) (zb 13 23) rfl rfl (by kernel_rfl) (fun _ _ _ h => h) (Or.inl ⟨by rfl, ?_⟩) ?_ ?_
       rotate_left
       ·intro w'
        go_simp
        with_reducible rfl
       rotate_left
       ·simp only [Act.put, Za, Zb, Zc, i64_w, i32_w]
        rfl
       refine pure_ (i := 5) (N := some 91) (v := ?_) (a' := ?_) (zb 13 55) rfl rfl (by kernel_rfl) (fun _ _ _ h => h) (Or.inl ⟨by rfl, ?_⟩) ?_ ?_
       rotate_left
       ·intro w'
        go_simp
        with_reducible rfl
       rotate_left
       ·simp only [Act.put, Za, Zb, Zc, i64_w, i32_w]
        rfl
       refine pure_ (i := 6) (N := some 92) (v := ?_) (a' := ?_) (zb 13 119) rfl rfl (by kernel_rfl) (fun _ _ _ h => h) (Or.inl ⟨by rfl, ?_⟩) ?_ ?_
       rotate_left
       ·intro w'
        go_simp
        with_reducible rfl
       rotate_left
       ·simp only [Act.put, Za, Zb, Zc, i64_w, i32_w]
        rfl
       refine pure_ (i := 8) (N := some 94) (v := ?_) (a' := ?_) (zb 13 375) rfl rfl (by kernel_rfl) (fun _ _ _ h => h) (Or.inl ⟨by rfl, ?_⟩) ?_ ?_
       rotate_left
       ·intro w'
        go_simp
        with_reducible rfl
       rotate_left
       ·simp only [Act.put, Za, Zb, Zc, i64_w, i32_w]
        rfl
       refine pure_ (i := 10) (N := some 96) (v := ?_) (a' := ?_) (zb 13 1399) rfl rfl (by kernel_rfl) (fun _ _ _ h => h) (Or.inl ⟨by rfl, ?_⟩) ?_ ?_
       rotate_left
       ·intro w'
        go_simp
        with_reducible rfl
       rotate_left
       ·simp only [Act.put, Za, Zb, Zc, i64_w, i32_w]
        rfl
       refine take_ (i := 3) (N := some 89) (v := ?_) (a' := ?_) (zb 13 1407) rfl rfl (by kernel_rfl) (fun _ _ _ h => h) (Or.inl ⟨by rfl, ?_⟩) hHeld ?_ ?_
       rotate_left
       ·rintro w' ⟨s1, s2⟩
        go_simp
        with_reducible rfl
       rotate_left
       ·simp only [Act.put, Za, Zb, Zc, i64_w, i32_w]
        rfl
       refine take_ (i := 7) (N := some 93) (v := ?_) (a' := ?_) (zb 13 1535) rfl rfl (by kernel_rfl) (fun _ _ _ h => h) (Or.inl ⟨by rfl, ?_⟩) hHeld ?_ ?_
       rotate_left
       ·rintro w' ⟨s1, s2⟩
        go_simp
        with_reducible rfl
       rotate_left
       ·simp only [Act.put, Za, Zb, Zc, i64_w, i32_w]
        rfl
       refine pure_ (i := 9) (N := some 95) (v := ?_) (a' := ?_) (zb 13 2047) rfl rfl (by kernel_rfl) (fun _ _ _ h => h) (Or.inl ⟨by rfl, ?_⟩) ?_ ?_
       rotate_left
       ·intro w'
        go_simp
        with_reducible rfl
       rotate_left
       ·simp only [Act.put, Za, Zb, Zc, i64_w, i32_w]
        rfl
       refine one_ (i := 11) (N := some 97) (zb 13 4095) rfl rfl (by kernel_rfl) (by decide) (fun K hK => ?_)
       refine goes_ Tryd.func157 (by kernel_rfl) rfl #[.int .i64 tapes, .int .i64 ((x % size : Nat) : Int), .int .i64 (c : Int)] (by rfl) rfl rfl (by (try simp only [List.map_toArray, List.map_cons, List.map_nil]); first | done | rfl) ?_
       with_reducible refine (hended _ (x % size) c hxm hc).mono ?_
       rintro e w5 ⟨rfl, hb5⟩
       refine ⟨_, rfl, ?_⟩
       have hQ5 := hQd.step hb5
       have hr5 := Kd.R_below hrd hb5
       refine hK.out _ _ ⟨(blk_cell hQ5.bP 0).trans rfl, by obtain ⟨ad, e, k⟩ := sr_at' hQ5.lst (i := i) (by rw [ints_length]; exact hil2); cases e; rw [ints_get li2 i _ hil2, hlx.out] at k; exact k⟩ (fun hHeld => ?_)
       clear hK K
       refine norm_ (a' := ?_) ?_ ?_
       rotate_left
       ·show Act.put _ (some 97) _ = _
        simp only [Act.put, Za, Zb, Zc, i64_w, i32_w]
        rfl
       refine pure_ (i := 12) (N := some 13) (v := ?_) (a' := ?_) (zb 13 8191) rfl rfl (by kernel_rfl) (fun _ _ _ h => h) (Or.inl ⟨by rfl, ?_⟩) ?_ ?_
       rotate_left
       ·intro w'
        go_simp
        with_reducible rfl
       rotate_left
       ·simp only [Act.put, Za, Zb, Zc, i64_w, i32_w]
        rfl
       refine done_ (by kernel_rfl) ?_
       have hro2 := hro.out
       have hlr := hrc.out
       cases he : en (x % size) c with
       | none =>
        have hv : enI en (x % size) c = -1 := by unfold enI; rw [he]
        have hnx : nxR rows size en x r.length = none := by unfold nxR; rw [hlr, he]; rfl
        have hro3 := Aside0.mk (hro2.none hnx)
        rw [hv]
        clear he hv hnx hro2
        go_wp2_with ((with_reducible refine gate_builtin (b := .append) (xs := #[.tmp 100, .tmp 101]) rfl ?_); go_loud (at_builtin; refine R_append' (Kd.int .i64) (w0 := w) w.heap.size rfl (.tmp 100) (.tmp 101) 86 2 (.int .i64 0) 8 rfl Tryd.underlying86 info_long rfl (by decide) (by decide) (.slice Ar r.length cr) r (-1) [.int .i64 (-1)] (fun _ => True) (fun _ => False) _ (by simp) rfl rfl rfl (fun _ h => h.elim) (fun _ _ => trivial) hr5 hQ5.bel (Below.size hQ5.bel) (by omega) ?_; intro v6 w6 hR6 hb6 hg6 hat6; obtain ⟨A6, c6, hv6⟩ := Kd.R_slice hR6; subst hv6; obtain ⟨hQ6, hf6⟩ := hQ5.app hr5 hfr.out hg6 hat6 hb6))
        go_roundg (wd - (c + 1))
        case measure => have := hkc.out; omega
        case rel => exact ⟨c + 1, li2, m, tab2, some a7, c7, A6, c6, r ++ [-1], rfl, (by simp [hlr]), (by go_num), ⟨by simp⟩, by omega, ⟨by simp [hlr]⟩, hTab, hlm, hro3, ⟨hf6⟩, ⟨hR6⟩, ⟨hQ6⟩⟩
       | some e' =>
        have hv : enI en (x % size) c = (e' : Int) := by unfold enI; rw [he]
        rw [hv]
        have hee := hen (x % size) c e' hxm hc he
        obtain ⟨ad, rfl, A', c', n1, n2, n3⟩ := at_row (Kd.C_below hN hQ5.bel) sx (by simpa using hsx)
        have er : (rows.map ints)[sx]'(by simpa using hsx) = ints rows[sx] := by simp
        have hrw2 : rows[sx].length = wd := hcl.wide _ (List.getElem_mem hsx)
        rw [er, ints_length, hrw2] at n1 n2 n3
        obtain ⟨a2, rfl, n4⟩ := at_num n3 c (by rw [ints_length]; omega)
        rw [ints_get _ c _ (by omega)] at n4
        have hy : rows[sx][c]'(by omega) < rows.length := hcl.lt _ (List.getElem_mem hsx) _ (List.getElem_mem _)
        have hyt := y_lt hy hNN2.out hee
        have hnx : nxR rows size en x r.length = some (rows[sx][c]'(by omega) * size + e') := by
         unfold nxR
         rw [hlr, he, hsx2.out, List.getD_eq_getElem?_getD (l := rows), List.getElem?_eq_getElem hsx, Option.getD_some, List.getD_eq_getElem?_getD, List.getElem?_eq_getElem (by omega)]
         rfl
        have hw6 := Aside0.mk (w_mul (a := rows[sx][c]'(by omega)) (size := size) rfl (by omega))
        have hw7 := Aside0.mk (w_add (a := rows[sx][c]'(by omega) * size) (b := e') (by omega))
        obtain ⟨t, ht⟩ : ∃ t : Nat, rows[sx][c]'(by omega) * size + e' = t := ⟨_, rfl⟩
        rw [ht] at hw7 hyt hnx
        clear ht hy er
        generalize rows[sx][c]'(by omega) = y at *
        generalize y * size = yz at *
        clear hrw2 hv
        have hs1 : ((sx : Int) < (rows.length : Int)) = True := eq_true (by omega)
        have hs2 : (0 ≤ (sx : Int)) = True := eq_true (by omega)
        have hc2 : (0 ≤ (c : Int)) = True := eq_true (by omega)
        have ht1 : ((t : Int) < (NN : Int)) = True := eq_true (by omega)
        have ht2 : (0 ≤ (t : Int)) = True := eq_true (by omega)
        have g3 : w5.cell? ⟨gp, 3, none⟩ = some (.slice (some ad) rows.length cn) := (blk_cell hQ5.bP 3).trans rfl
        have htl := hTab.out.len
        have kt := sr_at hQ5.tab (i := t) (by omega)
        obtain ⟨hbT, cells, hcT⟩ := row_blk hQ5.tab (by omega)
        have ft : w5.frozen? ⟨gT, t, none⟩ = false := blk_frozen hcT t
        rcases hTab.out.at_ t (by omega) with ⟨hm1, hnm⟩ | ⟨j, hm1, hj⟩
        ·have e1 : tab2[t]'(by omega) = -1 := by rw [List.getElem?_eq_getElem (by omega)] at hm1; exact Option.some.inj hm1
         rw [e1] at kt
         have hle := hTab.out.le
         have hQ6 := hQ5.set hbT t (li2.length : Int)
         have hr6 : SR _ w.heap.size (.slice Ar r.length cr) r := SR.move hr5 (Keep.set w5 ⟨gT, t, none⟩ (.int .i64 (li2.length : Int))) (fun k hk => (hfr.out k hk).1)
         have hTab2 := Aside0.mk (hTab.out.push (x := t) (by omega) hnm)
         have hro3 := Aside0.mk ((hro2.grow [t]).some hnx (j := li2.length) (by simp))
         have hst2 : (tab2.set t (li2.length : Int)).length = NN := by rw [List.length_set, htl]
         have hst3 := Aside0.mk hst2
         have hyt2 := Aside0.mk hyt
         have hil3 : Aside0 (ints (li2 ++ [t]) = ints li2 ++ [(t : Int)]) := ⟨by simp [ints, GwI.ints]⟩
         have hlm2 : Aside0 (li2 ++ [t] = li ++ (m ++ [t])) := ⟨by rw [hlm.out, List.append_assoc]⟩
         clear e1 hm1 hnm hnx hro2 he hcT cells htl hst2 hyt hlr
         have hu6 := hw6.out
         have hu7 := hw7.out
         go_wp2_with (first
          | ((with_reducible refine gate_builtin (b := .append) (xs := #[.tmp 127, .tmp 129]) rfl ?_); go_loud ((try simp only [hu6, hu7]); clear hu6 hu7; at_builtin; refine R_append' (Kd.int .i64) (w0 := w) w.heap.size rfl (.tmp 127) (.tmp 129) 86 2 (.int .i64 0) 8 rfl Tryd.underlying86 info_long rfl (by decide) (by decide) (.slice (some a7) li2.length c7) (ints li2) (t : Int) [.int .i64 (t : Int)] (fun _ => True) (fun _ => False) _ (by simp) rfl rfl rfl (fun _ h => h.elim) (fun _ _ => trivial) hQ6.lst hQ6.bel (Below.size hQ6.bel) (by rw [ints_length]; omega) ?_; intro v7 w7 hR7 hb7 hg7 hat7; obtain ⟨A8, c8, hv7⟩ := Kd.R_slice hR7; rw [← hil3.out] at hR7; have ev : (ints li2 ++ [(t : Int)]).length = li2.length + 1 := (by simp [ints, GwI.ints]); rw [ev] at hv7; subst hv7; have hQ7 := hQ6.push hg7 hat7 hR7 hb7; have hf7 := Clear.push hfr.out hr6 hat7; have hr7 : SR w7 w.heap.size (.slice Ar r.length cr) r := SR.move hr6 (Keep.grown hg7) (fun k hk => (hfr.out k hk).2.1); have kt7 := sr_at hQ7.tab (i := t) (by rw [hst3.out]; exact hyt2.out); rw [List.getElem_set_self] at kt7))
          | ((with_reducible refine gate_builtin (b := .append) (xs := #[.tmp 131, .tmp 136]) rfl ?_); go_loud (at_builtin; refine R_append' (Kd.int .i64) (w0 := w) w.heap.size rfl (.tmp 131) (.tmp 136) 86 2 (.int .i64 0) 8 rfl Tryd.underlying86 info_long rfl (by decide) (by decide) (.slice Ar r.length cr) r (li2.length : Int) [.int .i64 (li2.length : Int)] (fun _ => True) (fun _ => False) _ (by simp) rfl rfl rfl (fun _ h => h.elim) (fun _ _ => trivial) hr7 hQ7.bel (Below.size hQ7.bel) (by have := hrc.out; omega) ?_; intro v6 w6 hR8 hb8 hg8 hat8; obtain ⟨A6, c6, hv6⟩ := Kd.R_slice hR8; subst hv6; obtain ⟨hQ8, hf8⟩ := hQ7.app hr7 hf7 hg8 hat8 hb8)))
         go_roundg (wd - (c + 1))
         case measure => have := hkc.out; omega
         case rel => exact ⟨c + 1, li2 ++ [t], m ++ [t], tab2.set t (li2.length : Int), A8, c8, A6, c6, r ++ [(li2.length : Int)], (by simp), (by simp [hrc.out]), (by go_num), ⟨by simp⟩, by omega, ⟨by simp [hrc.out]⟩, hTab2, hlm2, hro3, ⟨by simpa using hf8⟩, ⟨hR8⟩, ⟨by simpa using hQ8⟩⟩
        ·have e1 : tab2[t]'(by omega) = (j : Int) := by rw [List.getElem?_eq_getElem (by omega)] at hm1; exact Option.some.inj hm1
         rw [e1] at kt
         have hj0 : ((j : Int) < 0) = False := eq_false (by omega)
         have hro3 := Aside0.mk (hro2.some hnx hj)
         clear e1 hm1 hj hnx hro2 he hcT cells htl hyt
         have hu6 := hw6.out
         have hu7 := hw7.out
         go_wp2_with ((with_reducible refine gate_builtin (b := .append) (xs := #[.tmp 131, .tmp 136]) rfl ?_); go_loud (clear hu6 hu7; at_builtin; refine R_append' (Kd.int .i64) (w0 := w) w.heap.size rfl (.tmp 131) (.tmp 136) 86 2 (.int .i64 0) 8 rfl Tryd.underlying86 info_long rfl (by decide) (by decide) (.slice Ar r.length cr) r (j : Int) [.int .i64 (j : Int)] (fun _ => True) (fun _ => False) _ (by simp) rfl rfl rfl (fun _ h => h.elim) (fun _ _ => trivial) hr5 hQ5.bel (Below.size hQ5.bel) (by omega) ?_; intro v6 w6 hR6 hb6 hg6 hat6; obtain ⟨A6, c6, hv6⟩ := Kd.R_slice hR6; subst hv6; obtain ⟨hQ6, hf6⟩ := hQ5.app hr5 hfr.out hg6 hat6 hb6))
         go_roundg (wd - (c + 1))
         case measure => have := hkc.out; omega
         case rel => exact ⟨c + 1, li2, m, tab2, some a7, c7, A6, c6, r ++ [(j : Int)], rfl, (by simp [hlr]), (by go_num), ⟨by simp⟩, by omega, ⟨by simp [hlr]⟩, hTab, hlm, hro3, ⟨hf6⟩, ⟨hR6⟩, ⟨hQ6⟩⟩
      ·have hcc : c = wd := by omega
       subst c
       have hlt2 : ((wd : Int) < (wd : Int)) = False := eq_false (by omega)
       go_wp2_with (go_at_call 60; (with_reducible refine (hwide _).mono ?_); rintro e w4 ⟨rfl, hb4⟩; replace hQ := hQ.step hb4; replace hr := Kd.R_below hr hb4; clear e0 e1)
       generalize w4 = wr at *
       have hsa : sx < accs.length := by rw [← hlen.out]; exact hsx
       obtain ⟨am, rfl, _⟩ := at_mark hA sx hsa
       obtain ⟨bx, hbx⟩ : ∃ bx : Bool, Aside0 (accs[sx] = bx) := ⟨_, ⟨rfl⟩⟩
       have hsa1 : ((sx : Int) < (accs.length : Int)) = True := eq_true (by omega)
       have hsa2 : (0 ≤ (sx : Int)) = True := eq_true (by omega)
       have hQd := hQ.step (below_drew1 (Below.refl _ _))
       have hrd := Kd.R_below hr (below_drew1 (Below.refl _ _))
       have hSS : ∀ W' tab vL li vA' bs vN hs rws, Rt w gp #[.int .i64 tapes, .int .i64 start, .slice (some am) accs.length ca, .slice AN rows.length cn] tapes gV (.slice (some ⟨gT, 0, none⟩) NN cT) tab vL li vA' bs vN hs rws wd W' → W'.cell? ⟨gV, 2, none⟩ = some vA' ∧ W'.cell? ⟨gp, 2, none⟩ = some (.slice (some am) accs.length ca) ∧ W'.cell? (am.add sx) = some (.bool bx) := by
        intro W' tab vL li vA' bs vN hs rws h
        obtain ⟨a9, e9, k9⟩ := at_mark (Kd.C_below hA h.bel) sx hsa
        cases e9
        exact ⟨(blk_cell h.bV 2).trans rfl, (blk_cell h.bP 2).trans rfl, by rw [k9, hbx.out]⟩
       refine start_ (n := 13) (S := fun w' => w'.cell? ⟨gV, 2, none⟩ = some vA ∧ w'.cell? ⟨gp, 2, none⟩ = some (.slice (some am) accs.length ca) ∧ w'.cell? (am.add sx) = some (.bool bx)) (ds := [12]) (.replicate 13 false) (by kernel_rfl) rfl rfl (hSS _ _ _ _ _ _ _ _ _ hQd) (fun hHeld => ?_)
       refine pure_ (i := 0) (N := some 138) (v := ?_) (a' := ?_) (zb 13 1) rfl rfl (by kernel_rfl) (fun _ _ _ h => h) (Or.inl ⟨by rfl, ?_⟩) ?_ ?_
       rotate_left
       ·intro w'
        go_simp
        with_reducible rfl
       rotate_left
       ·simp only [Act.put, Za, Zb, Zc, i64_w, i32_w]
        rfl
       refine pure_ (i := 2) (N := some 140) (v := ?_) (a' := ?_) (zb 13 5) rfl rfl (by kernel_rfl) (fun _ _ _ h => h) (Or.inl ⟨by rfl, ?_⟩) ?_ ?_
       rotate_left
       ·intro w'
        go_simp
        with_reducible rfl
       rotate_left
       ·simp only [Act.put, Za, Zb, Zc, i64_w, i32_w]
        rfl
       refine pure_ (i := 3) (N := some 141) (v := ?_) (a' := ?_) (zb 13 13) rfl rfl (by kernel_rfl) (fun _ _ _ h => h) (Or.inl ⟨by rfl, ?_⟩) ?_ ?_
       rotate_left
       ·intro w'
        go_simp
        with_reducible rfl
       rotate_left
       ·simp only [Act.put, Za, Zb, Zc, i64_w, i32_w]
        rfl
       refine pure_ (i := 4) (N := some 142) (v := ?_) (a' := ?_) (zb 13 29) rfl rfl (by kernel_rfl) (fun _ _ _ h => h) (Or.inl ⟨by rfl, ?_⟩) ?_ ?_
       rotate_left
       ·intro w'
        go_simp
        with_reducible rfl
       rotate_left
       ·simp only [Act.put, Za, Zb, Zc, i64_w, i32_w]
        rfl
       refine pure_ (i := 6) (N := some 144) (v := ?_) (a' := ?_) (zb 13 93) rfl rfl (by kernel_rfl) (fun _ _ _ h => h) (Or.inl ⟨by rfl, ?_⟩) ?_ ?_
       rotate_left
       ·intro w'
        go_simp
        with_reducible rfl
       rotate_left
       ·simp only [Act.put, Za, Zb, Zc, i64_w, i32_w]
        rfl
       refine take_ (i := 1) (N := some 139) (v := ?_) (a' := ?_) (zb 13 95) rfl rfl (by kernel_rfl) (fun _ _ _ h => h) (Or.inl ⟨by rfl, ?_⟩) hHeld ?_ ?_
       rotate_left
       ·rintro w' ⟨s1, s2, s3⟩
        go_simp
        with_reducible rfl
       rotate_left
       ·simp only [Act.put, Za, Zb, Zc, i64_w, i32_w]
        rfl
       refine take_ (i := 5) (N := some 143) (v := ?_) (a' := ?_) (zb 13 127) rfl rfl (by kernel_rfl) (fun _ _ _ h => h) (Or.inl ⟨by rfl, ?_⟩) hHeld ?_ ?_
       rotate_left
       ·rintro w' ⟨s1, s2, s3⟩
        go_simp
        with_reducible rfl
       rotate_left
       ·simp only [Act.put, Za, Zb, Zc, i64_w, i32_w]
        rfl
       refine pure_ (i := 7) (N := some 145) (v := ?_) (a' := ?_) (zb 13 255) rfl rfl (by kernel_rfl) (fun _ _ _ h => h) (Or.inl ⟨by rfl, ?_⟩) ?_ ?_
       rotate_left
       ·intro w'
        go_simp
        with_reducible rfl
       rotate_left
       ·simp only [Act.put, Za, Zb, Zc, i64_w, i32_w]
        rfl
       refine take_ (i := 8) (N := some 146) (v := ?_) (a' := ?_) (zb 13 511) rfl rfl (by kernel_rfl) (fun _ _ _ h => h) (Or.inl ⟨by rfl, ?_⟩) hHeld ?_ ?_
       rotate_left
       ·rintro w' ⟨s1, s2, s3⟩
        go_simp
        with_reducible rfl
       rotate_left
       ·simp only [Act.put, Za, Zb, Zc, i64_w, i32_w]
        rfl
       refine one_ (i := 9) (N := some 147) (zb 13 1023) rfl rfl (by kernel_rfl) (by decide) (fun K hK => ?_)
       refine value_ (w1 := wr.drew.alloc (.cells #[.bool bx] 4)) (v := .slice (some ⟨wr.drew.heap.size, 0, none⟩) 1 1) (by rfl) rfl (by first | (go_simp; done) | (go_simp; rfl)) ?_
       have hQ5 := hQd.step (below_alloc (Below.refl _ _) (.cells #[.bool bx] 4))
       refine hK.out _ _ (hSS _ _ _ _ _ _ _ _ _ hQ5) (fun hHeld => ?_)
       clear hK K
       refine norm_ (a' := ?_) ?_ ?_
       rotate_left
       ·show Act.put _ (some 147) _ = _
        simp only [Act.put, Za, Zb, Zc, i64_w, i32_w]
        rfl
       refine one_ (i := 10) (N := some 148) (zb 13 2047) rfl rfl (by kernel_rfl) (by decide) (fun K hK => ?_)
       refine Kd.R_append_step Kd.bool (w0 := w) w.heap.size (by rfl) (.tmp 139) (.tmp 147) 22 4 (.bool false) 1 rfl Tryd.underlying22 GwI.info_bool rfl (by decide) (by decide) vA ((li.take i).map (fun x => accs.getD (x / size) false)) bx [.bool bx] (fun _ => True) (fun _ => False) rfl rfl rfl (fun _ h => h.elim) (fun _ _ => trivial) hQd.acc hQd.bel (Below.size hQd.bel) (by simp <;> omega) ?_
       intro v6 w6 hR6 hb6 hg6 hat6
       obtain ⟨A6, c6, hv6⟩ := Kd.R_slice hR6
       subst hv6
       obtain ⟨b26, hQ6⟩ := hQd.mark hVs.out hgV.out hg6 hR6 hb6
       have hr6 : SR w6 w.heap.size _ r := R_off hrd (Keep.grown hg6) (Off.row hQd.acc (by decide))
       obtain ⟨a9, e9, k9⟩ := at_mark (Kd.C_below hA hb6) sx hsa
       cases e9
       refine hK.out _ _ ⟨(blk_cell b26 2).trans rfl, by have h := (Keep.grown hg6).obj hQd.bP (off_ne hQd.bP (Off.row hQd.acc (by decide))); exact (blk_cell h 2).trans rfl, by rw [k9, hbx.out]⟩ (fun hHeld => ?_)
       clear hK K
       refine norm_ (a' := ?_) ?_ ?_
       rotate_left
       ·show Act.put _ (some 148) _ = _
        simp only [Act.put, Za, Zb, Zc, i64_w, i32_w]
        rfl
       refine pure_ (i := 11) (N := some 149) (v := ?_) (a' := ?_) (zb 13 4095) rfl rfl (by kernel_rfl) (fun _ _ _ h => h) (Or.inl ⟨by rfl, ?_⟩) ?_ ?_
       rotate_left
       ·intro w'
        go_simp
        with_reducible rfl
       rotate_left
       ·simp only [Act.put, Za, Zb, Zc, i64_w, i32_w]
        rfl
       refine last_ (i := 12) (N := none) (zb 13 8191) rfl rfl (by kernel_rfl) (by decide) (fun K hK => ?_)
       have hf6 : w6.frozen? ⟨gV, 2, none⟩ = false := blk_frozen b26 2
       have hc6 : w6.cell? ⟨gV, 2, none⟩ = some vA := (blk_cell b26 2).trans rfl
       refine skip_ (w1 := w6.setCell ⟨gV, 2, none⟩ (.slice A6 (((li.take i).map (fun x => accs.getD (x / size) false)) ++ [bx]).length c6)) (by rfl) rfl (by first | (go_simp; done) | (go_simp; rfl)) ?_
       refine hK.out _ _ ?_
       clear hK K
       refine done_ (by kernel_rfl) ?_
       have hr7 : SR (w6.setCell ⟨gV, 2, none⟩ (.slice A6 (((li.take i).map (fun x => accs.getD (x / size) false)) ++ [bx]).length c6)) w.heap.size _ r := R_off hr6 (Keep.set w6 ⟨gV, 2, none⟩ _) (Off.cells b26 (by decide))
       clear hSS hQd hrd hQ5 hf6 hc6 b26 hr6 hR6 hb6 hg6 hHeld k9 hQ hr
       generalize w6.setCell ⟨gV, 2, none⟩ (.slice A6 (((li.take i).map (fun x => accs.getD (x / size) false)) ++ [bx]).length c6) = w7 at *
       have c3 : w7.cell? ⟨gV, 3, none⟩ = some vN := (blk_cell hQ6.bV 3).trans rfl
       obtain ⟨g0, cap, ev, hg0, hg1, _⟩ := Kd.R_form hr7 (by have := hrc.out; omega)
       cases ev
       have hrcw := hrc.out
       rw [hrcw] at hr7
       simp only [hrcw]
       have hfr3 := hfr.out g0 rfl
       have hfr4 := Aside0.mk hfr3
       clear hfr3 hfr
       have hrc2 := Aside0.mk hrcw
       have hhl : hs.length = i := by rw [hQ6.len]; exact hrl.out
       have hhl2 := Aside0.mk hhl
       clear hrcw hhl
       go_wp2_with ((with_reducible refine gate_builtin (b := .append) (xs := #[.tmp 151, .tmp 153]) rfl ?_); go_loud (at_builtin; refine R_append' (hk wd) (w0 := w) w.heap.size rfl (.tmp 151) (.tmp 153) 23 86 (.slice none 0 0) 24 rfl Tryd.underlying23 info_longs rfl (show 0 < 1 from Nat.one_pos) (by decide) vN hs (g0, cr) [.slice (some ⟨g0, 0, none⟩) wd cr] (fun _ => True) (fun _ => False) _ (by simp) rfl rfl rfl (fun _ h => h.elim) (fun _ _ => trivial) hQ6.out hQ6.bel (Below.size hQ6.bel) (by have := hhl2.out; omega) ?_; intro v8 w8 hR8 hb8 hg8 hat8; obtain ⟨A8, c8, hv8⟩ := Kd.R_slice hR8; have ev8 : (hs ++ [(g0, cr)]).length = hs.length + 1 := (by simp); rw [ev8] at hv8; clear ev8; subst hv8; obtain ⟨b8, hQ8⟩ := hQ6.row hVs.out hgV.out hg8 hR8 hb8 hr7 ⟨hfr4.out.1, hfr4.out.2.1⟩ hfr4.out.2.2; have c83 : w8.cell? ⟨gV, 3, none⟩ = some vN := (blk_cell b8 3).trans rfl; have f83 : w8.frozen? ⟨gV, 3, none⟩ = false := blk_frozen b8 3))
       go_roundg (NN - (i + 1))
       case measure => have := hkq.out; omega
       case rel => exact ⟨i + 1, li2, tab2, some a7, c7, _, _, hs ++ [(g0, cr)], rws ++ [r], rfl, (by go_num), ⟨by simp⟩, by omega, hTab, ⟨by rw [hlm.out]; exact get_app m hli0.out⟩, ⟨by simp [hrl.out]⟩, ⟨fun q hq => (List.mem_append.1 hq).elim (hrw.out q) (fun h => by rw [List.mem_singleton.1 h]; exact hrc2.out)⟩, ⟨oks_step hlm.out hrl.out hlt hxi.out hok.out hro.out⟩, ⟨by rw [take_step hlm.out hlt hxi.out, List.map_append, List.map_singleton, hsx2.out, List.getD_eq_getElem?_getD (l := accs), List.getElem?_eq_getElem hsa, Option.getD_some, hbx.out]; exact hQ8⟩⟩
    ·have hii : i = li.length := by omega
     subst hii
     have hlt1 : ((li.length : Int) < (li.length : Int)) = False := eq_false (by omega)
     have hli := hTab.out.le
     have hhl : hs.length = li.length := by rw [hR.len]; exact hrl.out
     obtain ⟨AN2, cN2, rfl⟩ := Kd.R_slice hR.out
     rw [hhl] at hR
     have hhl2 := Aside0.mk hhl
     clear hhl
     go_wp2_with fail
     go_loopg [16] li.length (fun kq v16 wr => ∃ k : Nat, v16 = .int .i64 (k : Int) ∧ Aside0 (kq = li.length - k) ∧ k ≤ li.length ∧ Aside0 (Rt w gp #[.int .i64 tapes, .int .i64 start, .slice AA accs.length ca, .slice AN rows.length cn] tapes gV (.slice (some ⟨gT, 0, none⟩) NN cT) tab (.slice A7 li.length c7) (ints li) vA ((li.take li.length).map (fun x => accs.getD (x / size) false)) (.slice AN2 li.length cN2) hs (fixTo li.length k rws) wd wr))
     case atStart => exact ⟨0, rfl, ⟨by simp⟩, Nat.zero_le _, ⟨by simpa [fixTo] using hR⟩⟩
     case round =>
      clear hR
      obtain ⟨wb, rfl⟩ : ∃ wb : World, wb = wr := ⟨_, rfl⟩
      obtain ⟨k, rfl, hkk, hkl, hB⟩ := hrel
      replace hB := hB.out
      have c3 : wb.cell? ⟨gV, 3, none⟩ = some (.slice AN2 li.length cN2) := (blk_cell hB.bV 3).trans rfl
      by_cases hkt : k < li.length
      ·have hlt2 : ((k : Int) < (li.length : Int)) = True := eq_true (by omega)
       have h0k : (0 ≤ (k : Int)) = True := eq_true (by omega)
       have hk1 : k < hs.length := by rw [hhl2.out]; exact hkt
       have hk2 : k < rws.length := by rw [hrl.out]; exact hkt
       obtain ⟨a, ha⟩ : ∃ a, hs[k]? = some a := ⟨_, List.getElem?_eq_getElem hk1⟩
       obtain ⟨r, hr⟩ : ∃ r, rws[k]? = some r := ⟨_, List.getElem?_eq_getElem hk2⟩
       have hrw2 : Aside0 (r.length = wd) := ⟨hrw.out r (List.mem_of_getElem? hr)⟩
       have hag : Aside0 (w.heap.size ≤ a.1) := ⟨(row_blk (hB.inn k a _ ha (fixTo_get hr)) (by have := hrw2.out; omega)).1⟩
       have ha2 := Aside0.mk ha
       have hr2 := Aside0.mk hr
       have hst0 : rowTo li.length 0 r = r := by simp [rowTo]
       have hB0 : (fixTo li.length k rws).set k (rowTo li.length 0 r) = fixTo li.length k rws := by
        rw [hst0]
        have h := fixTo_get (L := li.length) hr
        obtain ⟨h1, h2⟩ := List.getElem?_eq_some_iff.1 h
        rw [← h2]
        exact List.set_getElem_self h1
       have hB1 := Aside0.mk hB0
       clear hB0 hst0 ha hr hk1 hk2
       go_wp2_with fail
       clear c3
       go_loopg [17] wd (fun kq v17 wq => ∃ c : Nat, v17 = .int .i64 (c : Int) ∧ Aside0 (kq = wd - c) ∧ c ≤ wd ∧ Aside0 (Rt w gp #[.int .i64 tapes, .int .i64 start, .slice AA accs.length ca, .slice AN rows.length cn] tapes gV (.slice (some ⟨gT, 0, none⟩) NN cT) tab (.slice A7 li.length c7) (ints li) vA ((li.take li.length).map (fun x => accs.getD (x / size) false)) (.slice AN2 li.length cN2) hs ((fixTo li.length k rws).set k (rowTo li.length c r)) wd wq))
       case atStart => exact ⟨0, rfl, ⟨by simp⟩, Nat.zero_le _, ⟨by rw [hB1.out]; exact hB⟩⟩
       case round =>
        obtain ⟨c, rfl, hkc, hcw, hQ⟩ := hrel
        replace hQ := hQ.out
        obtain ⟨an, rfl, kh⟩ := hQ.head ha2.out
        unfold encH at kh
        have c3 : wr.cell? ⟨gV, 3, none⟩ = some (.slice (some an) li.length cN2) := (blk_cell hQ.bV 3).trans rfl
        by_cases hcl : c < wd
        ·have hcr : c < r.length := by rw [hrw2.out]; exact hcl
         have hk3 : k < (fixTo li.length k rws).length := by rw [fixTo_length]; exact (List.getElem?_eq_some_iff.1 hr2.out).1
         have hset : ((fixTo li.length k rws).set k (rowTo li.length c r))[k]? = some (rowTo li.length c r) := List.getElem?_set_self hk3
         have hrow := hQ.inn k a _ ha2.out hset
         have ke := sr_at hrow (i := c) (by rw [rowTo_length]; exact hcr)
         rw [rowTo_get hcr] at ke
         obtain ⟨_, cells, hcell⟩ := row_blk hrow (by rw [rowTo_length]; omega)
         have fe : wr.frozen? ⟨a.1, c, none⟩ = false := blk_frozen hcell c
         have hcl1 : ((c : Int) < (wd : Int)) = True := eq_true (by omega)
         have h0c : (0 ≤ (c : Int)) = True := eq_true (by omega)
         by_cases hneg : r[c] < 0
         ·have hQ2 := hQ.fix ha2.out hset hag.out c (li.length : Int)
          have e5 : (rowTo li.length c r).set c (li.length : Int) = rowTo li.length (c + 1) r := by
           rw [rowTo_step hcr]
           unfold fixE
           rw [if_pos hneg]
          rw [List.set_set, e5] at hQ2
          have hn1 : (r[c] < 0) = True := eq_true hneg
          clear hset hrow hcell cells e5 hneg hk3
          generalize r[c] = ec at *
          clear hcr
          go_wp2_with fail
          go_roundg (wd - (c + 1))
          case measure => have := hkc.out; omega
          case rel => exact ⟨c + 1, (by go_num), ⟨by simp⟩, by omega, ⟨hQ2⟩⟩
         ·have hn1 : (r[c] < 0) = False := eq_false hneg
          rw [← rowTo_same hcr (by omega)] at hQ
          clear hset hrow hcell cells hneg hk3
          generalize r[c] = ec at *
          clear hcr
          go_wp2_with fail
          go_roundg (wd - (c + 1))
          case measure => have := hkc.out; omega
          case rel => exact ⟨c + 1, (by go_num), ⟨by simp⟩, by omega, ⟨hQ⟩⟩
        ·have hcc : c = wd := by omega
         subst hcc
         have hlt3 : ((c : Int) < (c : Int)) = False := eq_false (by omega)
         have hfin : (fixTo li.length k rws).set k (rowTo li.length c r) = fixTo li.length (k + 1) rws := by
          rw [← fixTo_set hr2.out]
          congr 1
          unfold rowTo
          rw [List.take_of_length_le (Nat.le_of_eq hrw2.out), List.drop_of_length_le (Nat.le_of_eq hrw2.out), List.append_nil]
         rw [hfin] at hQ
         clear hfin
         go_wp2_with fail
         go_roundg (li.length - (k + 1))
         case measure => have := hkk.out; omega
         case rel => exact ⟨k + 1, (by go_num), ⟨by simp⟩, by omega, ⟨hQ⟩⟩
      ·have hkk2 : k = li.length := by omega
       subst hkk2
       have hlt2 : ((li.length : Int) < (li.length : Int)) = False := eq_false (by omega)
       have hB2 := hB.step (below_alloc (Below.refl _ _) (.cells #[] 2))
       have hr6 := sr_zero wb w.heap.size (Below.size hB.bel)
       have hcl0 : Clear (.slice (some ⟨wb.heap.size, 0, none⟩) 0 0) (.slice (some ⟨gT, 0, none⟩) NN cT) (.slice A7 li.length c7) hs := by
        intro k hk
        cases hk
        exact ⟨fun e => by have := Kd.R_lt hB.tab _ e.symm; simp only at this; omega, fun e => by have := Kd.R_lt hB.lst _ e.symm; simp only at this; omega, fun h hh e => absurd (hB.lt hh hB.len) (by rw [e]; exact Nat.lt_irrefl _)⟩
       go_wp2_with fail
       clear c3
       go_loopg [18, 19] wd (fun kq v18 v19 wq => ∃ (c : Nat) (Ar : Option Addr) (cr : Nat), v18 = .slice Ar c cr ∧ v19 = .int .i64 (c : Int) ∧ Aside0 (kq = wd - c) ∧ c ≤ wd ∧ Aside0 (Clear (.slice Ar c cr) (.slice (some ⟨gT, 0, none⟩) NN cT) (.slice A7 li.length c7) hs) ∧ Aside0 (SR wq w.heap.size (.slice Ar c cr) (List.replicate c (li.length : Int))) ∧
        Aside0 (Rt w gp #[.int .i64 tapes, .int .i64 start, .slice AA accs.length ca, .slice AN rows.length cn] tapes gV (.slice (some ⟨gT, 0, none⟩) NN cT) tab (.slice A7 li.length c7) (ints li) vA ((li.take li.length).map (fun x => accs.getD (x / size) false)) (.slice AN2 li.length cN2) hs (fixTo li.length li.length rws) wd wq))
       case atStart => exact ⟨0, _, _, rfl, rfl, ⟨by simp⟩, Nat.zero_le _, ⟨hcl0⟩, ⟨hr6⟩, ⟨hB2⟩⟩
       case round =>
        clear hcl0 hr6 hB2 hB
        obtain ⟨c, Ar, cr, rfl, rfl, hkc, hcw, hfr, hr, hQ⟩ := hrel
        replace hQ := hQ.out
        replace hr := hr.out
        have e0 : wr.cell? ⟨gp, 0, none⟩ = some (.int .i64 tapes) := (blk_cell hQ.bP 0).trans rfl
        by_cases hc : c < wd
        ·have hlt3 : ((c : Int) < (wd : Int)) = True := eq_true (by omega)
         go_wp2_with (first
          | (go_at_call 60; (with_reducible refine (hwide _).mono ?_); rintro e w4 ⟨rfl, hb4⟩; replace hQ := hQ.step hb4; replace hr := Kd.R_below hr hb4; clear e0)
          | ((with_reducible refine gate_builtin (b := .append) (xs := #[.tmp 202, .tmp 204]) rfl ?_); go_loud (at_builtin; refine R_append' (Kd.int .i64) (w0 := w) w.heap.size rfl (.tmp 202) (.tmp 204) 86 2 (.int .i64 0) 8 rfl Tryd.underlying86 info_long rfl (by decide) (by decide) (.slice Ar c cr) (List.replicate c (li.length : Int)) (li.length : Int) [.int .i64 (li.length : Int)] (fun _ => True) (fun _ => False) _ (by simp) rfl rfl rfl (fun _ h => h.elim) (fun _ _ => trivial) hr hQ.bel (Below.size hQ.bel) (by simp <;> omega) ?_; intro v6 w6 hR6 hb6 hg6 hat6; obtain ⟨A6, c6, hv6⟩ := Kd.R_slice hR6; have ev : (List.replicate c (li.length : Int) ++ [(li.length : Int)]).length = c + 1 := (by simp); rw [ev] at hv6; clear ev; subst hv6; obtain ⟨hQ6, hf6⟩ := hQ.app hr hfr.out hg6 hat6 hb6; rw [← List.replicate_succ'] at hR6)))
         go_roundg (wd - (c + 1))
         case measure => have := hkc.out; omega
         case rel => exact ⟨c + 1, A6, c6, rfl, (by go_num), ⟨by simp⟩, by omega, ⟨hf6⟩, ⟨hR6⟩, ⟨hQ6⟩⟩
        ·have hcc : c = wd := by omega
         subst hcc
         have hlt3 : ((c : Int) < (c : Int)) = False := eq_false (by omega)
         rw [List.take_length] at hQ
         obtain ⟨A2, cA2, rfl⟩ := Kd.R_slice hQ.acc
         rw [List.length_map] at hQ
         obtain ⟨g0, cap, ev, hg0, _, _⟩ := Kd.R_form hr (by simp; omega)
         rw [List.length_replicate] at ev
         cases ev
         have hfr3 := Aside0.mk (hfr.out g0 rfl)
         go_wp2_with (first
          | (go_at_call 60; (with_reducible refine (hwide _).mono ?_); rintro e w4 ⟨rfl, hb4⟩; replace hQ := hQ.step hb4; replace hr := Kd.R_below hr hb4; clear e0; have c2 : w4.cell? ⟨gV, 2, none⟩ = some (.slice A2 li.length cA2) := (blk_cell hQ.bV 2).trans rfl)
          | ((with_reducible refine gate_builtin (b := .append) (xs := #[.tmp 207, .tmp 208]) rfl ?_); go_loud (at_builtin; refine R_append' Kd.bool (w0 := w) w.heap.size rfl (.tmp 207) (.tmp 208) 22 4 (.bool false) 1 rfl Tryd.underlying22 GwI.info_bool rfl (by decide) (by decide) (.slice A2 li.length cA2) (li.map (fun x => accs.getD (x / size) false)) false [.bool false] (fun _ => True) (fun _ => False) _ (by simp) rfl rfl rfl (fun _ h => h.elim) (fun _ _ => trivial) hQ.acc hQ.bel (Below.size hQ.bel) (by rw [List.length_map]; omega) ?_; intro v6 w6 hR6 hb6 hg6 hat6; obtain ⟨A6, c6, hv6⟩ := Kd.R_slice hR6; have ev : (li.map (fun x => accs.getD (x / size) false) ++ [false]).length = li.length + 1 := (by simp); rw [ev] at hv6; clear ev; subst hv6; obtain ⟨b26, hQ6⟩ := hQ.mark hVs.out hgV.out hg6 hR6 hb6; have hr6 : SR w6 w.heap.size _ _ := R_off hr (Keep.grown hg6) (Off.row hQ.acc (by decide)); have hr7 : SR (w6.setCell ⟨gV, 2, none⟩ (.slice A6 (li.length + 1) c6)) w.heap.size _ _ := R_off hr6 (Keep.set w6 ⟨gV, 2, none⟩ _) (Off.cells b26 (by decide)); have c26 : w6.cell? ⟨gV, 2, none⟩ = some (.slice A2 li.length cA2) := (blk_cell b26 2).trans rfl; have f26 : w6.frozen? ⟨gV, 2, none⟩ = false := blk_frozen b26 2; have c33 : (w6.setCell ⟨gV, 2, none⟩ (.slice A6 (li.length + 1) c6)).cell? ⟨gV, 3, none⟩ = some (.slice AN2 li.length cN2) := (blk_cell hQ6.bV 3).trans rfl))
          | ((with_reducible refine gate_builtin (b := .append) (xs := #[.tmp 212, .tmp 214]) rfl ?_); go_loud (at_builtin; refine R_append' (hk c) (w0 := w) w.heap.size rfl (.tmp 212) (.tmp 214) 23 86 (.slice none 0 0) 24 rfl Tryd.underlying23 info_longs rfl (show 0 < 1 from Nat.one_pos) (by decide) (.slice AN2 li.length cN2) hs (g0, cr) [.slice (some ⟨g0, 0, none⟩) c cr] (fun _ => True) (fun _ => False) _ (by simp) rfl rfl rfl (fun _ h => h.elim) (fun _ _ => trivial) hQ6.out hQ6.bel (Below.size hQ6.bel) (by have := hhl2.out; omega) ?_; intro v8 w8 hR8 hb8 hg8 hat8; obtain ⟨A8, c8, hv8⟩ := Kd.R_slice hR8; have ev8 : (hs ++ [(g0, cr)]).length = li.length + 1 := (by simp [hhl2.out]); rw [ev8] at hv8; clear ev8; subst hv8; obtain ⟨b8, hQ8⟩ := hQ6.row hVs.out hgV.out hg8 hR8 hb8 hr7 ⟨hfr3.out.1, hfr3.out.2.1⟩ hfr3.out.2.2; have c83 : w8.cell? ⟨gV, 3, none⟩ = some (.slice AN2 li.length cN2) := (blk_cell b8 3).trans rfl; have f83 : w8.frozen? ⟨gV, 3, none⟩ = false := blk_frozen b8 3; have d0 : (w8.setCell ⟨gV, 3, none⟩ (.slice A8 (li.length + 1) c8)).cell? ⟨gV, 0, none⟩ = some (.int .i64 tapes) := (blk_cell hQ8.bV 0).trans rfl; have d1 : (w8.setCell ⟨gV, 3, none⟩ (.slice A8 (li.length + 1) c8)).cell? ⟨gV, 1, none⟩ = some (.int .i64 0) := (blk_cell hQ8.bV 1).trans rfl; have d2 : (w8.setCell ⟨gV, 3, none⟩ (.slice A8 (li.length + 1) c8)).cell? ⟨gV, 2, none⟩ = some (.slice A6 (li.length + 1) c6) := (blk_cell hQ8.bV 2).trans rfl; have d3 : (w8.setCell ⟨gV, 3, none⟩ (.slice A8 (li.length + 1) c8)).cell? ⟨gV, 3, none⟩ = some (.slice A8 (li.length + 1) c8) := (blk_cell hQ8.bV 3).trans rfl; have e0 : (w8.setCell ⟨gV, 3, none⟩ (.slice A8 (li.length + 1) c8)).cell? ⟨w.heap.size, 0, none⟩ = some (.int .i64 0) := (blk_cell hQ8.bR 0).trans rfl; have f0 : (w8.setCell ⟨gV, 3, none⟩ (.slice A8 (li.length + 1) c8)).frozen? ⟨w.heap.size, 0, none⟩ = false := blk_frozen hQ8.bR 0; have e1 : (w8.setCell ⟨gV, 3, none⟩ (.slice A8 (li.length + 1) c8)).cell? ⟨w.heap.size, 1, none⟩ = some (.int .i64 0) := (blk_cell hQ8.bR 1).trans rfl; have f1 : (w8.setCell ⟨gV, 3, none⟩ (.slice A8 (li.length + 1) c8)).frozen? ⟨w.heap.size, 1, none⟩ = false := blk_frozen hQ8.bR 1; have e2 : (w8.setCell ⟨gV, 3, none⟩ (.slice A8 (li.length + 1) c8)).cell? ⟨w.heap.size, 2, none⟩ = some (.slice none 0 0) := (blk_cell hQ8.bR 2).trans rfl; have f2 : (w8.setCell ⟨gV, 3, none⟩ (.slice A8 (li.length + 1) c8)).frozen? ⟨w.heap.size, 2, none⟩ = false := blk_frozen hQ8.bR 2; have e3 : (w8.setCell ⟨gV, 3, none⟩ (.slice A8 (li.length + 1) c8)).cell? ⟨w.heap.size, 3, none⟩ = some (.slice none 0 0) := (blk_cell hQ8.bR 3).trans rfl; have f3 : (w8.setCell ⟨gV, 3, none⟩ (.slice A8 (li.length + 1) c8)).frozen? ⟨w.heap.size, 3, none⟩ = false := blk_frozen hQ8.bR 3)))
         have b := hQ8.bR
         have b1 := blk_put b 0 (.int .i64 tapes) rfl
         have b2 := blk_put b1 1 (.int .i64 0) rfl
         have b3 := blk_put b2 2 (.slice A6 (li.length + 1) c6) rfl
         have b5 := blk_put b3 3 (.slice A8 (li.length + 1) c8) rfl
         refine bodyPost_ret (results_cell_row rfl _ _ (w.heap.size) 29 #[.int .i64 tapes, .int .i64 0, .slice A6 (li.length + 1) c6, .slice A8 (li.length + 1) c8] (0, 0) _ rfl b5 Tryd.underlying29 rfl (by kernel_rfl)) rfl ⟨_, _, li, rws, rfl, ?_, ?_, by rw [hS02.out]; exact hli0.out, hrl.out, hrw.out, hok.out, fun x hx => by rw [hNN2.out]; exact hTab.out.lt x hx, by rw [hNN2.out]; exact hTab.out.le, ?_⟩
         ·exact Kd.R_set (Kd.R_set (Kd.R_set (Kd.R_set hQ8.acc b (by decide) 0 _) b1 (by decide) 1 _) b2 (by decide) 2 _) b3 (by decide) 3 _
         ·exact Kd.R_set (Kd.R_set (Kd.R_set (Kd.R_set hQ8.rows b (by decide) 0 _) b1 (by decide) 1 _) b2 (by decide) 2 _) b3 (by decide) 3 _
         ·exact (((hQ8.bel.setCell (Nat.le_refl _) _).setCell (Nat.le_refl _) _).setCell (Nat.le_refl _) _).setCell (Nat.le_refl _) _
end Go.Proofs.YtbamnonamdpooaaDoor.Rg
namespace Go.Proofs.YtbamnonamdpooaaDoor.Tw
set_option linter.unusedVariables false
set_option linter.unusedSimpArgs false
open Go.RowKit Go.Proofs.YtbamnonamdpooaaDoorW.PrintWords Go.Proofs.YtbamnonamdpooaaDoorW.PrintLast Go.Proofs.YtbamnonamdpooaaDoorW.PrintMore Mp Kp Mg Tdy Rg
def grpTo (accs : List Bool) (i : Nat) : List Nat := (first accs).take i ++ List.replicate (accs.length - i) 0
theorem grpTo_length (accs : List Bool) {i : Nat} (h : i ≤ accs.length) : (grpTo accs i).length = accs.length := by
 have : (first accs).length = accs.length := by simp [first]
 unfold grpTo
 rw [List.length_append, List.length_take, List.length_replicate]
 omega
theorem grpTo_all (accs : List Bool) : grpTo accs accs.length = first accs := by
 have : (first accs).length = accs.length := by simp [first]
 unfold grpTo
 rw [List.take_of_length_le (by omega)]
 simp
theorem first_len (accs : List Bool) : (first accs).length = accs.length := by simp [first]
theorem grpTo_zero (accs : List Bool) : grpTo accs 0 = List.replicate accs.length 0 := by simp [grpTo]
theorem grpTo_step (accs : List Bool) {i : Nat} (hi : i < accs.length) : grpTo accs (i + 1) = if accs[i] then (grpTo accs i).set i 1 else grpTo accs i := first_step accs hi rfl
def kyF (g : List Nat) (q : Nat) : Nat := g.getD q 0
def nxF (rows : List (List Nat)) (q c : Nat) : Nat := (rows.getD q []).getD c 0
def acF (accs : List Bool) (q : Nat) : Bool := accs.getD q false
theorem nxF_get {rows : List (List Nat)} {q c : Nat} (h : q < rows.length) (h2 : c < rows[q].length) : nxF rows q c = rows[q][c] := by simp [nxF, List.getD_eq_getElem?_getD, h, h2]
theorem kyF_get {g : List Nat} {q : Nat} (h : q < g.length) : kyF g q = g[q] := by simp [kyF, List.getD_eq_getElem?_getD, h]
theorem acF_get {accs : List Bool} {q : Nat} (h : q < accs.length) : acF accs q = accs[q] := by simp [acF, List.getD_eq_getElem?_getD, h]
theorem tab_find {key : Nat → Nat} {N : Nat} {li : List Nat} {tab : List Int} (h : Tab N (li.map key) tab) {t : Nat} (ht : key t < N) :
  (find key (key t) li = none ∧ tab[key t]? = some (-1) ∧ key t ∉ li.map key) ∨ ∃ j : Nat, find key (key t) li = some j ∧ tab[key t]? = some (j : Int) ∧ j < li.length := by
 rcases h.at_ _ ht with ⟨h1, h2⟩ | ⟨j, h1, h2⟩
 ·refine .inl ⟨?_, h1, h2⟩
  cases hf : find key (key t) li with
  | none => rfl
  | some j =>
   obtain ⟨hj, e⟩ := find_some hf
   exact absurd (List.mem_map.2 ⟨li[j], List.getElem_mem hj, e⟩) h2
 ·refine .inr ⟨j, ?_, h1, ?_⟩
  ·cases hf : find key (key t) li with
   | none =>
    obtain ⟨s, hs, e⟩ := List.mem_map.1 (List.mem_of_getElem? h2)
    exact absurd e (find_none hf s hs)
   | some j' =>
    obtain ⟨hj, e⟩ := find_some hf
    obtain ⟨hjl, e2⟩ := List.getElem?_eq_some_iff.1 h2
    have hnd := List.pairwise_iff_getElem.1 h.nodup
    have e3 : (li.map key)[j']'(by rw [List.length_map]; exact hj) = (li.map key)[j] := by rw [e2, List.getElem_map]; exact e
    rcases Nat.lt_trichotomy j' j with hlt | heq | hlt
    ·exact absurd e3 (hnd j' j (by rw [List.length_map]; exact hj) hjl hlt)
    ·rw [heq]
    ·exact absurd e3.symm (hnd j j' hjl (by rw [List.length_map]; exact hj) hlt)
  ·have := (List.getElem?_eq_some_iff.1 h2).1
   rwa [List.length_map] at this
theorem tab_push {key : Nat → Nat} {N : Nat} {li : List Nat} {tab : List Int} (h : Tab N (li.map key) tab) {t : Nat} (ht : key t < N) (hn : key t ∉ li.map key) : Tab N ((li ++ [t]).map key) (tab.set (key t) (li.length : Int)) := by
 have := h.push ht hn
 rwa [List.length_map, ← List.map_singleton, ← List.map_append] at this
theorem tab_le {key : Nat → Nat} {N : Nat} {li : List Nat} {tab : List Int} (h : Tab N (li.map key) tab) : li.length ≤ N := by
 have := h.le
 rwa [List.length_map] at this
theorem S_off {α : Type} {d : Kd α} {e : Nat} {W W' : World} {base : Nat} {ok : Nat → Prop} {v : Value} {xs : List α} {x : Option Nat} (h : Kd.S d e W base ok v xs) (hk : Keep W W' x) (ho : Off W x (e :: d.E)) : Kd.S d e W' base ok v xs :=
 Kd.S_mono (Kd.S_move (Kd.S_bound h) (fun k hk' => hk.blk k hk'.2.2.1 (fun he => by
  obtain ⟨_, _, _, q, hq, cells, hc⟩ := hk'
  exact ho k he.symm cells q hq hc))) (fun _ hk => hk.1)
theorem S_keepx {α : Type} {d : Kd α} {e : Nat} {W W' : World} {base : Nat} {ok : Nat → Prop} {v : Value} {xs : List α} {x : Option Nat} (h : Kd.S d e W base (fun k => ok k ∧ some k ≠ x) v xs) (hk : Keep W W' x) : Kd.S d e W' base (fun k => ok k ∧ some k ≠ x) v xs :=
 Kd.S_step h (fun k hk' hlt => hk.blk k hlt hk'.2)
theorem S_append' {P : Program} {ops : Array Oper} {rest : List Oper} {o : Oper} {a : Act} {Q : Exit → Act → World → Prop} {α : Type} (d : Kd α) {w0 W : World} (base : Nat) (hgd : o.guard = none) (s x : Operand) (t e : TypeId) (z : Value) (bytes : Nat)
  (ho : o.op = .call { callee := .builtin .append, args := #[s, x], argTypes := #[t, t] })
  (ht : P.underlying t = some (.slice e)) (hinfo : (P.info? e).map (fun i => (i.zero, i.size, i.bytes)) = some (some z, d.sz, bytes)) (hz : z.cells.size = d.sz) (hs0 : 0 < d.sz) (hb0 : 0 < bytes)
  (v : Value) (xs : List α) (p : α) (cs : List Value) (ok okp : Nat → Prop) (b : Nat) (hbs : b = W.heap.size) (hs : a.eval s = v) (hx : a.eval x = .slice (some ⟨b, 0, none⟩) 1 1) (hp : d.M W base okp p cs) (hokp : ∀ k, okp k → ok k ∧ some k ≠ v.ownBlock) (hfresh : ∀ k, W.heap.size ≤ k → ok k)
  (HO : Kd.S d e W base (fun k => ok k ∧ ¬ okp k) v xs) (HB : Below base w0 W) (hbase : base ≤ W.heap.size) (hl : (xs.length + 1) * bytes ≤ 140737488355328)
  (h : ∀ v1 w1, Kd.S d e w1 base ok v1 (xs ++ [p]) → Below base w0 w1 → W.grownBy w1 v.ownBlock → (v1.ownBlock = v.ownBlock ∨ ∃ b, v1.ownBlock = some b ∧ W.heap.size ≤ b) → wpList P ops Q rest (a.put o.dst v1) w1) :
  wpList P ops Q (o :: rest) a (W.alloc (.cells cs.toArray e)) := by
 subst hbs
 exact Kd.S_append d base hgd s x t e z bytes ho ht hinfo hz hs0 hb0 v xs p cs ok okp hs hx hp hokp hfresh HO HB hbase hl h
/-- What stands in memory while the machine is made: the new relation, the table, the list, the row. All of it is newer than w0. -/
structure Tt (w0 : World) (tapes : Int) (gV gT nT cT : Nat) (tab : List Int) (vL : Value) (li : List Nat) (vr : Value) (r : List Nat) (vA : Value) (bs : List Bool) (vN : Value) (rws : List (List Nat)) (W : World) : Prop where
 bV : W.heap[gV]? = some (.cells #[.int .i64 tapes, .int .i64 0, vA, vN] 29 (0, 0))
 tab : SR W w0.heap.size (.slice (some ⟨gT, 0, none⟩) nT cT) tab
 lst : SR W w0.heap.size vL (ints li)
 row : SR W w0.heap.size vr (ints r)
 acc : Kd.R Kd.bool 4 W w0.heap.size (fun _ => True) vA bs
 out : Kd.S (Kd.slice 2 (Kd.int .i64)) 86 W w0.heap.size (fun k => k ≠ gT ∧ some k ≠ vL.ownBlock ∧ some k ≠ vr.ownBlock) vN (rws.map ints)
 tl : some gT ≠ vL.ownBlock
 tr : some gT ≠ vr.ownBlock
 lr : ∀ k, vL.ownBlock = some k → some k ≠ vr.ownBlock
 hV : w0.heap.size ≤ gV
 bel : Below w0.heap.size w0 W
section
variable {w0 : World} {tapes : Int} {gV gT nT cT : Nat} {tab : List Int} {vL : Value} {li : List Nat} {vr : Value} {r : List Nat} {vA : Value} {bs : List Bool} {vN : Value} {rws : List (List Nat)} {W W' : World}
theorem Tt.step (h : Tt w0 tapes gV gT nT cT tab vL li vr r vA bs vN rws W) (hb : Below W.heap.size W W') : Tt w0 tapes gV gT nT cT tab vL li vr r vA bs vN rws W' :=
 ⟨blk_below h.bV hb, Kd.R_below h.tab hb, Kd.R_below h.lst hb, Kd.R_below h.row hb, Kd.R_below h.acc hb, Kd.S_below h.out hb, h.tl, h.tr, h.lr, h.hV, below_step h.bel hb⟩
/-- The table is written. -/
theorem Tt.set (h : Tt w0 tapes gV gT nT cT tab vL li vr r vA bs vN rws W) (hg : w0.heap.size ≤ gT) (i : Nat) (x : Int) : Tt w0 tapes gV gT nT cT (tab.set i x) vL li vr r vA bs vN rws (W.setCell ⟨gT, i, none⟩ (.int .i64 x)) := by
 have hk := Keep.set W ⟨gT, i, none⟩ (.int .i64 x)
 have hy : ∀ E : List Nat, (∀ q ∈ E, q ≠ 2) → Off W (some gT) E := fun E hE => Off.row h.tab hE
 have ho := S_keepx (x := some gT) (ok := fun k => k ≠ gT ∧ some k ≠ vL.ownBlock ∧ some k ≠ vr.ownBlock) (Kd.S_mono h.out (fun k hk => ⟨hk, fun e => hk.1 (Option.some.inj e)⟩)) hk
 exact ⟨hk.obj h.bV (off_ne h.bV (hy _ (by decide))), Kd.R_putn h.tab (i : Int) x, h.lst.move hk (fun k e e2 => by cases e2; exact h.tl e.symm), h.row.move hk (fun k e e2 => by cases e2; exact h.tr e.symm), R_off h.acc hk (hy _ (by decide)), Kd.S_mono ho (fun k hk => hk.1), h.tl, h.tr, h.lr, h.hV, h.bel.setCell hg _⟩
/-- A block of numbers that is written is none of the others. -/
theorem Tt.out_after (h : Tt w0 tapes gV gT nT cT tab vL li vr r vA bs vN rws W) {v v1 : Value} (hg : W.grownBy W' v.ownBlock) (hat : v1.ownBlock = v.ownBlock ∨ ∃ b, v1.ownBlock = some b ∧ W.heap.size ≤ b) {p : Nat → Prop} (hp : ∀ k, k ≠ gT ∧ some k ≠ vL.ownBlock ∧ some k ≠ vr.ownBlock → p k ∧ some k ≠ v.ownBlock) :
  Kd.S (Kd.slice 2 (Kd.int .i64)) 86 W' w0.heap.size (fun k => p k ∧ some k ≠ v1.ownBlock) vN (rws.map ints) := Kd.S_after (Kd.S_mono h.out hp) hg hat
/-- The list gets one more. -/
theorem Tt.push {v1 : Value} {x : Nat} (h : Tt w0 tapes gV gT nT cT tab vL li vr r vA bs vN rws W) (hgT : gT < W.heap.size) (hg : W.grownBy W' vL.ownBlock) (hat : v1.ownBlock = vL.ownBlock ∨ ∃ b, v1.ownBlock = some b ∧ W.heap.size ≤ b) (hR : SR W' w0.heap.size v1 (ints li ++ [(x : Int)])) (hb : Below w0.heap.size w0 W') : Tt w0 tapes gV gT nT cT tab v1 (li ++ [x]) vr r vA bs vN rws W' := by
 have hk := Keep.grown hg
 have hy : ∀ E : List Nat, (∀ q ∈ E, q ≠ 2) → Off W vL.ownBlock E := fun E hE => Off.row h.lst hE
 refine ⟨hk.obj h.bV (off_ne h.bV (hy _ (by decide))), h.tab.move hk (fun k e e2 => by cases e; exact h.tl e2), by simpa [ints, GwI.ints] using hR, h.row.move hk (fun k e e2 => h.lr k e2.symm e.symm), R_off h.acc hk (hy _ (by decide)), Kd.S_mono (h.out_after hg hat (p := fun k => k ≠ gT ∧ some k ≠ vr.ownBlock) (fun k hk => ⟨⟨hk.1, hk.2.2⟩, hk.2.1⟩)) (fun k hk => ⟨hk.1.1, hk.2, hk.1.2⟩), ne_after hat hgT h.tl, h.tr, fun k hk e => ?_, h.hV, hb⟩
 rcases hat with ha | ⟨b, ha, hbl⟩
 ·exact h.lr k (by rw [← ha]; exact hk) e
 ·rw [ha] at hk
  cases hk
  have := Kd.R_lt h.row _ e.symm
  omega
/-- The row gets one more. -/
theorem Tt.more {v1 : Value} {x : Nat} (h : Tt w0 tapes gV gT nT cT tab vL li vr r vA bs vN rws W) (hgT : gT < W.heap.size) (hg : W.grownBy W' vr.ownBlock) (hat : v1.ownBlock = vr.ownBlock ∨ ∃ b, v1.ownBlock = some b ∧ W.heap.size ≤ b) (hR : SR W' w0.heap.size v1 (ints r ++ [(x : Int)])) (hb : Below w0.heap.size w0 W') : Tt w0 tapes gV gT nT cT tab vL li v1 (r ++ [x]) vA bs vN rws W' := by
 have hk := Keep.grown hg
 have hy : ∀ E : List Nat, (∀ q ∈ E, q ≠ 2) → Off W vr.ownBlock E := fun E hE => Off.row h.row hE
 exact ⟨hk.obj h.bV (off_ne h.bV (hy _ (by decide))), h.tab.move hk (fun k e e2 => by cases e; exact h.tr e2), h.lst.move hk (fun k e e2 => h.lr k e e2), by simpa [ints, GwI.ints] using hR, R_off h.acc hk (hy _ (by decide)), Kd.S_mono (h.out_after hg hat (p := fun k => k ≠ gT ∧ some k ≠ vL.ownBlock) (fun k hk => ⟨⟨hk.1, hk.2.1⟩, hk.2.2⟩)) (fun k hk => ⟨hk.1.1, hk.1.2, hk.2⟩), h.tl, ne_after hat hgT h.tr, fun k hk => ne_after hat (Kd.R_lt h.lst _ hk) (h.lr k hk), h.hV, hb⟩
/-- A new row is begun. -/
theorem Tt.begin (h : Tt w0 tapes gV gT nT cT tab vL li (.slice none 0 0) [] vA bs vN rws W) (hgT : gT < W.heap.size) : Tt w0 tapes gV gT nT cT tab vL li (.slice (some ⟨W.heap.size, 0, none⟩) 0 0) [] vA bs vN rws (W.alloc (.cells #[] 2)) := by
 have h1 := h.step (below_alloc (Below.refl _ _) (.cells #[] 2))
 refine ⟨h1.bV, h1.tab, h1.lst, sr_zero W _ (Below.size h.bel), h1.acc, ?_, h.tl, fun e => ?_, fun k hk e => ?_, h.hV, h1.bel⟩
 ·exact Kd.S_mono (Kd.S_below (Kd.S_bound h.out) (below_alloc (Below.refl _ _) _)) (fun k hk => ⟨hk.1.1, hk.1.2.1, fun e => by have h3 := hk.2.2.1; have h4 : k = W.heap.size := Option.some.inj e; omega⟩)
 ·have h4 : gT = W.heap.size := Option.some.inj e
  omega
 ·have h3 := Kd.R_lt h.lst _ hk
  have h4 : k = W.heap.size := Option.some.inj e
  omega
/-- A mark is put behind the marks. -/
theorem Tt.mark {v1 : Value} {bs' : List Bool} (h : Tt w0 tapes gV gT nT cT tab vL li vr r vA bs vN rws W) (hg : W.grownBy W' vA.ownBlock) (hR : Kd.R Kd.bool 4 W' w0.heap.size (fun _ => True) v1 bs') (hb : Below w0.heap.size w0 W') :
  W'.heap[gV]? = some (.cells #[.int .i64 tapes, .int .i64 0, vA, vN] 29 (0, 0)) ∧ Tt w0 tapes gV gT nT cT tab vL li vr r v1 bs' vN rws (W'.setCell ⟨gV, 2, none⟩ v1) := by
 have hk := Keep.grown hg
 have hy : ∀ E : List Nat, (∀ q ∈ E, q ≠ 4) → Off W vA.ownBlock E := fun E hE => Off.row h.acc hE
 have bV := hk.obj h.bV (off_ne h.bV (hy _ (by decide)))
 refine ⟨bV, ?_⟩
 have hs := Keep.set W' ⟨gV, 2, none⟩ v1
 have p : ∀ E : List Nat, (∀ q ∈ E, q ≠ 29) → Off W' (some gV) E := fun E hE => Off.cells bV hE
 have mv : ∀ {v : Value} {xs : List Int}, SR W w0.heap.size v xs → SR (W'.setCell ⟨gV, 2, none⟩ v1) w0.heap.size v xs := fun h => R_off (R_off h hk (hy _ (by decide))) hs (p _ (by decide))
 exact ⟨blk_put bV 2 v1 rfl, mv h.tab, mv h.lst, mv h.row, R_off hR hs (p _ (by decide)), S_off (S_off h.out hk (hy _ (by decide))) hs (p _ (by decide)), h.tl, h.tr, h.lr, h.hV, hb.setCell h.hV _⟩
/-- The row is put behind the rows. -/
theorem Tt.nxt {v1 : Value} (h : Tt w0 tapes gV gT nT cT tab vL li vr r vA bs vN rws W) (hg : W.grownBy W' vN.ownBlock) (hR : Kd.S (Kd.slice 2 (Kd.int .i64)) 86 W' w0.heap.size (fun k => k ≠ gT ∧ some k ≠ vL.ownBlock) v1 (rws.map ints ++ [ints r])) (hb : Below w0.heap.size w0 W') :
  W'.heap[gV]? = some (.cells #[.int .i64 tapes, .int .i64 0, vA, vN] 29 (0, 0)) ∧ Tt w0 tapes gV gT nT cT tab vL li (.slice none 0 0) [] vA bs v1 (rws ++ [r]) (W'.setCell ⟨gV, 3, none⟩ v1) := by
 have hk := Keep.grown hg
 have hy : ∀ E : List Nat, (∀ q ∈ E, q ≠ 86) → Off W vN.ownBlock E := fun E hE => Off.row (Kd.S_R h.out) hE
 have bV := hk.obj h.bV (off_ne h.bV (hy _ (by decide)))
 refine ⟨bV, ?_⟩
 have hs := Keep.set W' ⟨gV, 3, none⟩ v1
 have p : ∀ E : List Nat, (∀ q ∈ E, q ≠ 29) → Off W' (some gV) E := fun E hE => Off.cells bV hE
 have mv : ∀ {v : Value} {xs : List Int}, SR W w0.heap.size v xs → SR (W'.setCell ⟨gV, 3, none⟩ v1) w0.heap.size v xs := fun h => R_off (R_off h hk (hy _ (by decide))) hs (p _ (by decide))
 exact ⟨blk_put bV 3 v1 rfl, mv h.tab, mv h.lst, Kd.R_nil _ _ _ _ _, R_off (R_off h.acc hk (hy _ (by decide))) hs (p _ (by decide)), Kd.S_mono (ok := fun k => k ≠ gT ∧ some k ≠ vL.ownBlock) (S_off (by simpa using hR) hs (p _ (by decide))) (fun k hk => ⟨hk.1, hk.2, fun e => by cases e⟩), h.tl, (fun e => by cases e), (fun k _ e => by cases e), h.hV, hb.setCell h.hV _⟩
end
end Go.Proofs.YtbamnonamdpooaaDoor.Tw
namespace Go.Proofs.YtbamnonamdpooaaDoor.Tw
set_option linter.unusedVariables false
set_option linter.unusedSimpArgs false
open Go.RowKit Go.Proofs.YtbamnonamdpooaaDoorW.PrintWords Go.Proofs.YtbamnonamdpooaaDoorW.PrintLast Go.Proofs.YtbamnonamdpooaaDoorW.PrintMore Mp Kp Mg Tdy Rg
set_option maxHeartbeats 8000000 in
set_option maxRecDepth 100000 in
theorem tidied (tapes start : Int) (accs0 : List Bool) (rows0 : List (List Int)) (wd : Nat) (hwd1 : 0 < wd) (hwd2 : wd ≤ 30)
  (w : World) (gp : Nat) (AA : Option Addr) (ca : Nat) (AN : Option Addr) (cn : Nat) (hP : w.heap[gp]? = some (.cells #[.int .i64 tapes, .int .i64 start, .slice AA accs0.length ca, .slice AN rows0.length cn] 29 (0, 0)))
  (PP : List Bool → List (List Nat) → Prop)
  (hright : ∀ W, Below w.heap.size w W → Calls Tryd.prog 108 #[.pointer (some ⟨gp, 0, none⟩)] W fun e W' => ∃ (accs : List Bool) (rows : List (List Nat)), PP accs rows ∧ ∃ (vA vN : Value), e = .returned (.agg #[.int .i64 tapes, .int .i64 0, vA, vN]) ∧
   Kd.R Kd.bool 4 W' W.heap.size (fun _ => True) vA accs ∧ Kd.R (Kd.slice 2 (Kd.int .i64)) 86 W' W.heap.size (fun _ => True) vN (rows.map ints) ∧ Below W.heap.size W W')
  (hfin0 : ∀ (accs : List Bool) (rows : List (List Nat)), PP accs rows → ∀ (W : World) (gx : Nat) (A2 : Option Addr) (c2 : Nat) (A3 : Option Addr) (c3 : Nat) (A1 : Option Addr) (c1 : Nat) (g : List Nat), W.heap[gx]? = some (.cells #[.int .i64 tapes, .int .i64 0, .slice A2 accs.length c2, .slice A3 rows.length c3] 29 (0, 0)) → Kd.C Kd.bool W A2 accs.length accs → accs.length ≤ c2 → Kd.C (Kd.slice 2 (Kd.int .i64)) W A3 rows.length (rows.map ints) → rows.length ≤ c3 → Kd.C (Kd.int .i64) W A1 g.length (ints g) → g.length ≤ c1 → g.length = rows.length →
   Calls Tryd.prog 109 #[.pointer (some ⟨gx, 0, none⟩), .slice A1 g.length c1] W fun e W' => ∃ v0 : Value, e = .returned (.tuple #[v0, .int .i64 ((number (keys rows g) []).2.length : Int)]) ∧ (Kd.int .i64).R 2 W' W.heap.size (fun _ => True) v0 (ints (number (keys rows g) []).1) ∧ Below W.heap.size W W')
  (bs : List Bool) (rws : List (List Nat))
  (hPf : ∀ (accs : List Bool) (rows : List (List Nat)), PP accs rows → Closed wd rows accs ∧ rows.length ≤ 1000000 ∧ 0 < rows.length ∧ ∃ f1 g f2 m, classes rows f1 (first accs) 0 = some g ∧ byState wd rows g 0 f2 = some (some (m, rws)) ∧ m.map (fun q => accs.getD q false) = bs) :
  Calls Tryd.prog 48 #[.pointer (some ⟨gp, 0, none⟩)] w fun e w' => ∃ (vA vN : Value), e = .returned (.agg #[.int .i64 tapes, .int .i64 0, vA, vN]) ∧
   Kd.R Kd.bool 4 w' w.heap.size (fun _ => True) vA bs ∧ Kd.S (Kd.slice 2 (Kd.int .i64)) 86 w' w.heap.size (fun _ => True) vN (rws.map ints) ∧ Below w.heap.size w w' := by
 have hgp := blk_lt hP
 go_enter Tryd.func48, Tryd.ntmps48
 go_wp2_with (first
  | (go_at_call 108; go_loud (with_reducible refine (hright _ (below_alloc (Below.refl _ _) _)).mono ?_; rintro e w1 ⟨accs, rows, hPP, vA, vN, rfl, r1, r2, hb1⟩; obtain ⟨hcl, hn, hn0, f1, g, f2, m, hc0, hb0, hbs0⟩ := hPf _ _ hPP; have hlen := Aside0.mk hcl.len; have hcls := Aside0.mk hc0; have hnA : accs.length ≤ 1000000 := (by rw [← hcl.len]; exact hn); have hb2 := Aside0.mk hb0; have hbss := Aside0.mk hbs0; clear hc0 hb0 hbs0; have hfin := hfin0 accs rows hPP; clear hfin0 hPf hPP; obtain ⟨A1, c1, rfl, hc1, hC1⟩ := Kd.R_reads r1; obtain ⟨A2, c2, rfl, hc2, hC2⟩ := Kd.R_reads r2; simp only [List.length_map] at hc2 hC2))
  | ((with_reducible refine gate_dst (N := 22) rfl ?_); go_loud (
    have bR1 := blk_below (blk_new w (.cells #[.int .i64 0, .int .i64 0, .slice none 0 0, .slice none 0 0] 29)) hb1
    have bP1 := blk_below (blk_alloc hP (.cells #[.int .i64 0, .int .i64 0, .slice none 0 0, .slice none 0 0] 29)) hb1
    have hB1 := below_step (below_alloc (Below.refl w.heap.size w) (.cells #[.int .i64 0, .int .i64 0, .slice none 0 0, .slice none 0 0] 29)) hb1
    obtain ⟨wA, hWA⟩ : ∃ wA : World, wA = w1.alloc (.cells #[.int .i64 tapes, .int .i64 0, .slice A1 accs.length c1, .slice A2 rows.length c2] 29) := ⟨_, rfl⟩
    have fX : wA.heap[w1.heap.size]? = some (.cells #[.int .i64 tapes, .int .i64 0, .slice A1 accs.length c1, .slice A2 rows.length c2] 29 (0, 0)) := by rw [hWA]; exact blk_new _ _
    have fR : wA.heap[w.heap.size]? = some (.cells #[.int .i64 0, .int .i64 0, .slice none 0 0, .slice none 0 0] 29 (0, 0)) := by rw [hWA]; exact blk_alloc bR1 _
    have fP : wA.heap[gp]? = some (.cells #[.int .i64 tapes, .int .i64 start, .slice AA accs0.length ca, .slice AN rows0.length cn] 29 (0, 0)) := by rw [hWA]; exact blk_alloc bP1 _
    have cA : Kd.C Kd.bool wA A1 accs.length accs := by rw [hWA]; exact Kd.C_below hC1 (below_alloc (Below.refl _ _) _)
    have cN : Kd.C (Kd.slice 2 (Kd.int .i64)) wA A2 rows.length (rows.map ints) := by rw [hWA]; exact Kd.C_below hC2 (below_alloc (Below.refl _ _) _)
    have bA : Below w.heap.size w wA := by rw [hWA]; exact below_alloc hB1 _
    rw [← hWA]
    generalize w1.heap.size = gX at *
    clear hWA bR1 bP1 hB1 hC1 hC2 r1 r2 hb1
    refine Kd.R_make (Kd.int .i64) (w0 := wA) wA.heap.size 2 rfl (N := 22) rfl 86 _ _ rfl (accs.length : Int) rfl rfl Tryd.underlying86 (.int .i64 0) 8 info_long rfl (by decide) (by decide) (0 : Int) (ok := fun _ => True) (okp := fun _ => False) rfl (fun _ h => h.elim) trivial (by omega) (by have := hlen.out; simp; omega) (Below.refl _ _) (Nat.le_refl _) ?_
    intro v2 w2 hR2 hb2 hg2 hn2
    simp only [Int.toNat_natCast] at hR2
    obtain ⟨gC, cC, hv2, hgC, _, _⟩ := Kd.R_form hR2 (by have := hlen.out; simp; omega)
    subst hv2
    rw [List.length_replicate] at hR2)))
 have hz0 : grpTo accs 0 = List.replicate accs.length 0 := grpTo_zero accs
 have hS2 : SR w2 wA.heap.size (.slice (some ⟨gC, 0, none⟩) accs.length cC) (ints (grpTo accs 0)) := by rw [hz0, ints_replicate]; exact hR2
 clear hz0 hR2 hg2 hn2
 go_loopg [5] accs.length (fun kq v5 wr => ∃ i : Nat, v5 = .int .i64 (i : Int) ∧ Aside0 (kq = accs.length - i) ∧ i ≤ accs.length ∧ Aside0 (Below wA.heap.size wA wr) ∧ Aside0 (SR wr wA.heap.size (.slice (some ⟨gC, 0, none⟩) accs.length cC) (ints (grpTo accs i))))
 case atStart => exact ⟨0, rfl, ⟨by simp⟩, Nat.zero_le _, ⟨hb2⟩, ⟨hS2⟩⟩
 case round =>
  clear hb2 hS2
  obtain ⟨i, rfl, hkq, hil, hb, hS⟩ := hrel
  replace hb := hb.out
  replace hS := hS.out
  have e2 : wr.cell? ⟨gX, 2, none⟩ = some (.slice A1 accs.length c1) := (blk_cell (blk_below fX hb) 2).trans rfl
  by_cases hlt : i < accs.length
  ·have hlt1 : ((i : Int) < (accs.length : Int)) = True := eq_true (by omega)
   have h0i : (0 ≤ (i : Int)) = True := eq_true (by omega)
   obtain ⟨ad, rfl, k1⟩ := at_mark (Kd.C_below cA hb) i hlt
   have hl : (ints (grpTo accs i)).length = accs.length := by rw [ints_length, grpTo_length accs hil]
   obtain ⟨hbT, cells, hcT⟩ := row_blk hS (by rw [hl]; omega)
   have f1 : wr.frozen? ⟨gC, i, none⟩ = false := blk_frozen hcT i
   have k2 := sr_at hS (i := i) (by rw [hl]; exact hlt)
   have hs := grpTo_step accs hlt
   cases hm : accs[i] with
   | false =>
    rw [hm, if_neg (by simp)] at hs
    rw [hm] at k1
    have hS2 : SR wr wA.heap.size (.slice (some ⟨gC, 0, none⟩) accs.length cC) (ints (grpTo accs (i + 1))) := by rw [hs]; exact hS
    clear hs hm hl hcT k2 f1
    go_wp2_with fail
    go_roundg (accs.length - (i + 1))
    case measure => have := hkq.out; omega
    case rel => exact ⟨i + 1, (by go_num), ⟨by simp⟩, by omega, ⟨hb⟩, ⟨hS2⟩⟩
   | true =>
    rw [hm, if_pos rfl] at hs
    rw [hm] at k1
    have hS2 : SR (wr.setCell ⟨gC, i, none⟩ (.int .i64 1)) wA.heap.size (.slice (some ⟨gC, 0, none⟩) accs.length cC) (ints (grpTo accs (i + 1))) := by
     rw [hs, ← ints_set]
     exact Kd.R_putn hS (i : Int) 1
    have hb3 := hb.setCell (p := ⟨gC, i, none⟩) hbT (.int .i64 1)
    generalize (ints (grpTo accs i))[i]'(by rw [hl]; exact hlt) = oi at *
    clear hs hm hl hcT hS hb
    go_wp2_with fail
    go_roundg (accs.length - (i + 1))
    case measure => have := hkq.out; omega
    case rel => exact ⟨i + 1, (by go_num), ⟨by simp⟩, by omega, ⟨hb3⟩, ⟨hS2⟩⟩
  ·have hii : i = accs.length := by omega
   subst i
   have hlt1 : ((accs.length : Int) < (accs.length : Int)) = False := eq_false (by omega)
   rw [grpTo_all] at hS
   go_wp2_with fail
   clear e2
   go_loopg [4, 6] f1 (fun kq v4 v6 wr => ∃ (g' : List Nat) (n' : Nat) (A4 : Option Addr) (c4 : Nat), v4 = .slice A4 g'.length c4 ∧ v6 = .int .i64 (n' : Int) ∧ Aside0 (classes rows kq g' n' = some g) ∧ Aside0 (g'.length = rows.length) ∧ Aside0 (Below wA.heap.size wA wr) ∧ Aside0 (SR wr wA.heap.size (.slice A4 g'.length c4) (ints g')))
   case atStart => exact ⟨first accs, 0, some ⟨gC, 0, none⟩, cC, congrArg (fun n => Value.slice (some ⟨gC, 0, none⟩) n cC) (first_len accs).symm, rfl, hcls, ⟨by rw [first_len]; exact hlen.out.symm⟩, ⟨hb⟩, ⟨by rw [first_len]; exact hS⟩⟩
   case round =>
    clear hb hS hkq hlt
    obtain ⟨g', n', A4, c4, rfl, rfl, hcl2, hgl, hb, hS⟩ := hrel
    replace hb := hb.out
    replace hS := hS.out
    obtain ⟨hq1, hq2, hCg⟩ := Kd.R_reads' hS
    cases gk with
    | zero => exact absurd hcl2.out (by simp [classes])
    | succ kf =>
    have hst := hcl2.out
    unfold classes at hst
    have hnu := (number_spec (keys rows g') [] List.Pairwise.nil).len
    have hon := (number_spec (keys rows g') [] List.Pairwise.nil).onto
    have hlk : (keys rows g').length = rows.length := by simp [keys]
    obtain ⟨out, hout⟩ : ∃ out, (number (keys rows g') []).1 = out := ⟨_, rfl⟩
    obtain ⟨L, hL⟩ : ∃ L, (number (keys rows g') []).2.length = L := ⟨_, rfl⟩
    have hF := fun W gx A2 c2 A3 c3 A1 c1 => hfin W gx A2 c2 A3 c3 A1 c1 g'
    rw [hout, hlk] at hnu
    rw [hL, hout, hlk] at hon
    rw [hL, hout] at hst
    rw [hL, hout] at hF
    have hst2 := Aside0.mk hst
    have hnu2 := Aside0.mk hnu
    have hon2 := Aside0.mk hon
    clear hst hnu hout hL hlk hcl2 hq1 hon
    have hF2 := Aside0.mk hF
    clear hF
    by_cases hLn : L = n'
    ·subst hLn
     have hog : out = g := by
      have h := hst2.out
      rw [if_pos rfl] at h
      exact Option.some.inj h
     clear hst2
     subst out
     have hL1 : L ≤ 1000000 := Nat.le_trans hon2.out.le_n hn
     have hL0 : 0 < L := Nat.lt_of_le_of_lt (Nat.zero_le _) (hon2.out.lt 0 hn0)
     go_wp2_with (first
      | (go_at_call 109; go_loud (with_reducible refine (hF2.out _ gX A1 c1 A2 c2 A4 c4 (blk_below fX hb) (Kd.C_below cA hb) hc1 (Kd.C_below cN hb) hc2 (by rw [ints_length] at hCg; exact hCg) hq2 hgl.out).mono ?_; rintro e w3 ⟨v0, rfl, r3, hb3⟩; obtain ⟨A5, c5, hv⟩ := Kd.R_slice r3; rw [ints_length] at hv; subst hv))
      | ((with_reducible refine gate_dst (N := 49) rfl ?_); go_loud (
        have hb5 := below_step hb hb3
        obtain ⟨hq9, hq3, cG⟩ := Kd.R_reads' r3
        clear hq9
        rw [ints_length] at cG
        have fX3 := blk_below fX hb5
        have fR3 := blk_below fR hb5
        have fP3 := blk_below fP hb5
        have cA3 := Kd.C_below cA hb5
        have cN3 := Kd.C_below cN hb5
        have bW := below_step bA hb5
        clear hF2 hCg hS hb hb3 hb5 r3 fX fR fP cA cN bA hfin hright hq2
        refine Kd.R_make (Kd.int .i64) (w0 := w3) w3.heap.size 2 rfl (N := 49) rfl 86 _ _ rfl (L : Int) rfl rfl Tryd.underlying86 (.int .i64 0) 8 info_long rfl (by decide) (by decide) (0 : Int) (ok := fun _ => True) (okp := fun _ => False) rfl (fun _ h => h.elim) trivial (by omega) (by simp; omega) (Below.refl _ _) (Nat.le_refl _) ?_
        intro v2 w4 hR4 hb4 hg4 hn4
        simp only [Int.toNat_natCast] at hR4
        obtain ⟨gT, cT, hv2, hgT, _, _⟩ := Kd.R_form hR4 (by simp; omega)
        subst hv2
        rw [List.length_replicate] at hR4)))
     clear hg4 hn4
     go_loopg [10] L (fun kq v10 wq => ∃ k : Nat, v10 = .int .i64 (k : Int) ∧ Aside0 (kq = L - k) ∧ k ≤ L ∧ Aside0 (Below w3.heap.size w3 wq) ∧ Aside0 (SR wq w3.heap.size (.slice (some ⟨gT, 0, none⟩) L cT) (List.replicate k (-1) ++ List.replicate (L - k) 0)))
     case atStart => exact ⟨0, rfl, ⟨by simp⟩, Nat.zero_le _, ⟨hb4⟩, ⟨by simpa using hR4⟩⟩
     case round =>
      clear hb4 hR4
      obtain ⟨k, rfl, hkq, hkl, hb4, hR⟩ := hrel
      replace hb4 := hb4.out
      replace hR := hR.out
      by_cases hlt2 : k < L
      ·have hl : (List.replicate k (-1 : Int) ++ List.replicate (L - k) 0).length = L := by simp; omega
       obtain ⟨hbT, cells, hcT⟩ := row_blk hR (by rw [hl]; omega)
       have k1 := sr_at hR (i := k) (by rw [hl]; exact hlt2)
       have f1 : wr.frozen? ⟨gT, k, none⟩ = false := blk_frozen hcT k
       have hR2 : SR (wr.setCell ⟨gT, k, none⟩ (.int .i64 (-1))) w3.heap.size (.slice (some ⟨gT, 0, none⟩) L cT) ((List.replicate k (-1 : Int) ++ List.replicate (L - k) 0).set k (-1)) := Kd.R_putn hR (k : Int) (-1)
       have hb6 := hb4.setCell (p := ⟨gT, k, none⟩) hbT (.int .i64 (-1))
       rw [fill_step L k hlt2] at hR2
       generalize (List.replicate k (-1 : Int) ++ List.replicate (L - k) 0)[k]'(by rw [hl]; exact hlt2) = oi at *
       clear hl hcT cells hR hb4
       have hlt3 : ((k : Int) < (L : Int)) = True := eq_true (by omega)
       have h0k : (0 ≤ (k : Int)) = True := eq_true (by omega)
       go_wp2_with fail
       go_roundg (L - (k + 1))
       case measure => have := hkq.out; omega
       case rel => exact ⟨k + 1, (by go_num), ⟨by simp⟩, by omega, ⟨hb6⟩, ⟨hR2⟩⟩
      ·have hkk : k = L := by omega
       subst k
       have hlt3 : ((L : Int) < (L : Int)) = False := eq_false (by omega)
       have hl0 : List.replicate L (-1 : Int) ++ List.replicate (L - L) 0 = List.replicate L (-1) := by simp
       rw [hl0] at hR
       clear hl0
       have hgl1 : 0 < g.length := by rw [hnu2.out]; exact hn0
       obtain ⟨q0, hq0⟩ : ∃ q0 : Nat, g.getD 0 0 = q0 := ⟨_, rfl⟩
       have hq0L : q0 < L := by rw [← hq0]; exact hon2.out.lt 0 hn0
       have hq0g : g[0] = q0 := by rw [← hq0]; simp [List.getD_eq_getElem?_getD, hgl1]
       have hA4 := below_alloc hb4 (.cells #[.int .i64 0] 2)
       have d1 : wr.cell? ⟨gX, 1, none⟩ = some (.int .i64 0) := (blk_cell (blk_below fX3 hb4) 1).trans rfl
       have d3 : (wr.alloc (.cells #[.int .i64 0] 2)).cell? ⟨gX, 1, none⟩ = some (.int .i64 0) := (blk_cell (blk_below fX3 hA4) 1).trans rfl
       obtain ⟨a5, rfl, kg⟩ := at_num (Kd.C_below cG hA4) 0 (by rw [ints_length]; exact hgl1)
       rw [ints_get g 0 _ hgl1, hq0g] at kg
       have kg2 : (wr.alloc (.cells #[.int .i64 0] 2)).cell? a5 = some (.int .i64 (q0 : Int)) := by
        have e : a5.add 0 = a5 := by simp [Addr.add]
        rw [e] at kg
        exact kg
       have hR4 := Kd.R_below hR (below_alloc (Below.refl _ _) (.cells #[.int .i64 0] 2))
       have k1 := sr_at hR4 (i := q0) (by rw [List.length_replicate]; exact hq0L)
       obtain ⟨hbT, cells, hcT⟩ := row_blk hR4 (by rw [List.length_replicate]; omega)
       have f1 : (wr.alloc (.cells #[.int .i64 0] 2)).frozen? ⟨gT, q0, none⟩ = false := blk_frozen hcT q0
       have hgT1 := Kd.R_lt hR gT rfl
       have hb6 := hb4.setCell (p := ⟨gT, q0, none⟩) hbT (.int .i64 0)
       have hb7 := below_alloc hb6 (.cells #[.int .i64 0] 2)
       have hR6 : SR (wr.setCell ⟨gT, q0, none⟩ (.int .i64 0)) w3.heap.size (.slice (some ⟨gT, 0, none⟩) L cT) ((List.replicate L (-1 : Int)).set q0 0) := Kd.R_putn hR (q0 : Int) 0
       have hR7 := Kd.R_below hR6 (below_alloc (Below.refl _ _) (.cells #[.int .i64 0] 2))
       have hszw : (wr.setCell ⟨gT, q0, none⟩ (.int .i64 0)).heap.size = wr.heap.size := by simp [World.setCell]
       have hL6 : SR ((wr.setCell ⟨gT, q0, none⟩ (.int .i64 0)).alloc (.cells #[.int .i64 0] 2)) w3.heap.size (.slice (some ⟨wr.heap.size, 0, none⟩) 1 1) (ints [0]) := by
        rw [← hszw]
        exact R_one (Kd.int .i64) 2 _ _ (by rw [hszw]; exact Below.size hb4) (ok := fun _ => True) (okp := fun _ => False) (cs := [.int .i64 0]) rfl (fun _ h => h.elim) trivial
       have d4 : ((wr.setCell ⟨gT, q0, none⟩ (.int .i64 0)).alloc (.cells #[.int .i64 0] 2)).cell? ⟨gp, 0, none⟩ = some (.int .i64 tapes) := (blk_cell (blk_below fP3 hb7) 0).trans rfl
       clear hszw hR6 hb6
       have hlt4 : ((q0 : Int) < (L : Int)) = True := eq_true (by omega)
       have h0q : (0 ≤ (q0 : Int)) = True := eq_true (by omega)
       have hgl2 : (0 < g.length) = True := eq_true hgl1
       have hgl3 : ((0 : Int) < (g.length : Int)) = True := eq_true (by omega)
       have hq2 := Aside0.mk hq0
       have hTab := Aside0.mk (tab_start hq0L)
       clear hq0 hq0g hcT cells
       go_wp2_with fail
       clear d1 d3 d4 kg kg2 k1 f1 hR4 hA4 hb4 hR hlt4 h0q hgl2 hgl3
       generalize hWW : (wr.setCell ⟨gT, q0, none⟩ (.int .i64 0)).alloc (.cells #[.int .i64 0] 2) = wx at *
       have hwx : wx.heap.size = wr.heap.size + 1 := by rw [← hWW]; simp [World.setCell]
       have hsl : w3.heap.size ≤ wr.heap.size := by have := Below.size hb7; have := hbT; omega
       generalize hgg : wr.heap.size + 1 = gV at *
       have h5 : Tt w3 tapes gV gT L cT ((List.replicate L (-1 : Int)).set q0 0) (.slice (some ⟨wr.heap.size, 0, none⟩) 1 1) [0] (.slice none 0 0) [] (.slice none 0 0) [] (.slice none 0 0) [] (wx.alloc (.cells #[.int .i64 tapes, .int .i64 0, .slice none 0 0, .slice none 0 0] 29)) :=
        ⟨blk_at _ _ _ hwx.symm, Kd.R_below hR7 (below_alloc (Below.refl _ _) _), Kd.R_below hL6 (below_alloc (Below.refl _ _) _), Kd.R_nil _ _ _ _ _, Kd.R_nil _ _ _ _ _, Kd.S_nil _ _ _ _ _, (fun e => by have : gT = wr.heap.size := Option.some.inj e; omega), (fun e => by cases e), (fun k _ e => by cases e), by omega, below_alloc hb7 _⟩
       have hTab2 : Aside0 (Tab L ([0].map (kyF g)) ((List.replicate L (-1 : Int)).set q0 0)) := ⟨by have h := hTab.out; rw [← hq2.out] at h ⊢; exact h⟩
       have hbs : Aside0 (bfs (kyF g) (nxF rows) (List.range wd) 0 f2 0 [0] [] = some (some (m, rws))) := ⟨hb2.out⟩
       clear hTab hR7 hL6 hb7 hWW hwx hsl hgg hgT1 hkq hb2
       go_loopg [11, 13] f2 (fun kf v11 v13 wr => ∃ (i : Nat) (li : List Nat) (rw_ : List (List Nat)) (tab : List Int) (AL : Option Addr) (cL : Nat) (vA vN : Value), v11 = .slice AL li.length cL ∧ v13 = .int .i64 (i : Int) ∧ Aside0 (bfs (kyF g) (nxF rows) (List.range wd) 0 kf i li rw_ = some (some (m, rws))) ∧ Aside0 (rw_.length = i) ∧ i ≤ li.length ∧ Aside0 (∀ q ∈ li, q < rows.length) ∧ Aside0 (Tab L (li.map (kyF g)) tab) ∧
        Aside0 (Tt w3 tapes gV gT L cT tab (.slice AL li.length cL) li (.slice none 0 0) [] vA ((li.take i).map (acF accs)) vN rw_ wr))
       case atStart => exact ⟨0, [0], [], _, _, _, _, _, rfl, rfl, hbs, ⟨rfl⟩, Nat.zero_le _, ⟨fun q hq => by rw [List.mem_singleton.1 hq]; exact hn0⟩, hTab2, ⟨h5⟩⟩
       case round =>
        clear h5 hTab2 hbs
        obtain ⟨wo, rfl⟩ : ∃ wo : World, wo = wr := ⟨_, rfl⟩
        obtain ⟨i, li, rw_, tab, AL, cL, vA, vN, rfl, rfl, H, hrl, hil, hQl, hTab, h⟩ := hrel
        replace h := h.out
        have hliL := tab_le hTab.out
        by_cases hlt : i < li.length
        ·cases gk with
         | zero => exact absurd H.out (by simp [bfs])
         | succ kf =>
         have H1 := H.out
         unfold bfs at H1
         rw [dif_pos hlt, if_neg (by omega)] at H1
         have HH := Aside0.mk H1
         clear H1 H
         have hkr : li[i] < rows.length := hQl.out _ (List.getElem_mem hlt)
         have hki := Aside0.mk (List.getElem?_eq_getElem hlt)
         have hgT2 := Kd.R_lt h.tab gT rfl
         have h0 := h.begin hgT2
         generalize hk : li[i] = k at *
         have HK := Aside0.mk hk
         clear hk
         have hlt1 : ((i : Int) < (li.length : Int)) = True := eq_true (by omega)
         have h0i : (0 ≤ (i : Int)) = True := eq_true (by omega)
         go_wp2_with fail
         clear h
         go_loopg [11, 14, 15] wd (fun kq v11 v14 v15 wq => ∃ (c : Nat) (lj r : List Nat) (tab2 : List Int) (A' : Option Addr) (c' : Nat) (Ar : Option Addr) (cr : Nat), v11 = .slice A' lj.length c' ∧ v14 = .slice Ar r.length cr ∧ v15 = .int .i64 (c : Int) ∧ c ≤ wd ∧ Aside0 (kq = wd - c) ∧ Aside0 (r.length = c) ∧ Aside0 ((row (kyF g) (nxF rows) k ((List.range wd).drop c) lj).1 = (row (kyF g) (nxF rows) k (List.range wd) li).1 ∧ r ++ (row (kyF g) (nxF rows) k ((List.range wd).drop c) lj).2 = (row (kyF g) (nxF rows) k (List.range wd) li).2) ∧ Aside0 (∀ q ∈ lj, q < rows.length) ∧ Aside0 (lj[i]? = some k) ∧ Aside0 (Tab L (lj.map (kyF g)) tab2) ∧
          Aside0 (Tt w3 tapes gV gT L cT tab2 (.slice A' lj.length c') lj (.slice Ar r.length cr) r vA ((li.take i).map (acF accs)) vN rw_ wq))
         case atStart => exact ⟨0, li, [], _, _, _, _, _, rfl, rfl, rfl, Nat.zero_le _, ⟨by simp⟩, ⟨rfl⟩, ⟨by simp⟩, ⟨hQl.out⟩, hki, hTab, ⟨h0⟩⟩
         case round =>
          clear h0
          obtain ⟨c, lj, r, tab2, A', c', Ar, cr, rfl, rfl, rfl, hcw, hkq, hrc, HR, hQj, hji, hTj, hq⟩ := hrel
          replace hq := hq.out
          have hjl := tab_le hTj.out
          have hij : i < lj.length := (List.getElem?_eq_some_iff.1 hji.out).1
          obtain ⟨a7, rfl, e7⟩ := sr_at' hq.lst (i := i) (by rw [ints_length]; exact hij)
          rw [ints_get lj i _ hij, (List.getElem?_eq_some_iff.1 hji.out).2] at e7
          have e3 : wr.cell? ⟨gX, 3, none⟩ = some (.slice A2 rows.length c2) := (blk_cell (blk_below fX3 hq.bel) 3).trans rfl
          obtain ⟨a2, rfl, A9, c9, e9, hl9, hC9⟩ := at_row (Kd.C_below cN3 hq.bel) k (by rw [List.length_map]; exact hkr)
          rw [List.getElem_map, ints_length, hcl.wide _ (List.getElem_mem hkr)] at e9 hl9 hC9
          have hlt4 : ((i : Int) < (lj.length : Int)) = True := eq_true (by omega)
          have hkr2 : ((k : Int) < (rows.length : Int)) = True := eq_true (by omega)
          have h0k : (0 ≤ (k : Int)) = True := eq_true (by omega)
          by_cases hc : c < wd
          ·have hd : (List.range wd).drop c = c :: (List.range wd).drop (c + 1) := by
            rw [List.drop_eq_getElem_cons (by simpa using hc)]; simp
           have HR1 := HR.out
           rw [hd] at HR1
           clear HR hd
           have hcr : c < rows[k].length := by rw [hcl.wide _ (List.getElem_mem hkr)]; exact hc
           obtain ⟨ad9, rfl, et⟩ := at_num hC9 c (by rw [ints_length]; exact hcr)
           rw [ints_get _ c _ hcr, ← nxF_get hkr hcr] at et
           have htr : nxF rows k c < rows.length := hcl.step hkr hc
           have hgt : nxF rows k c < g.length := by rw [hnu2.out]; exact htr
           obtain ⟨a5', e5', eg⟩ := at_num (Kd.C_below cG hq.bel) (nxF rows k c) (by rw [ints_length]; exact hgt)
           cases e5'
           rw [ints_get _ _ _ hgt, ← kyF_get hgt] at eg
           have hkL : kyF g (nxF rows k c) < L := hon2.out.lt _ htr
           have hfd := tab_find hTj.out hkL
           have hl2 : kyF g (nxF rows k c) < tab2.length := by rw [hTj.out.len]; exact hkL
           have etab := sr_at hq.tab hl2
           obtain ⟨hbT2, cells, hcT⟩ := row_blk hq.tab (by omega)
           have fT : wr.frozen? ⟨gT, kyF g (nxF rows k c), none⟩ = false := blk_frozen hcT _
           have hlt2 : ((c : Int) < (wd : Int)) = True := eq_true (by omega)
           have h0c : (0 ≤ (c : Int)) = True := eq_true (by omega)
           have htg : ((nxF rows k c : Int) < (g.length : Int)) = True := eq_true (by omega)
           have h0t : (0 ≤ (nxF rows k c : Int)) = True := eq_true (by omega)
           have hkL1 : ((kyF g (nxF rows k c) : Int) < (L : Int)) = True := eq_true (by omega)
           have h0L : (0 ≤ (kyF g (nxF rows k c) : Int)) = True := eq_true (by omega)
           clear hcT cells
           have hgk : Aside0 (∀ W, Below w3.heap.size w3 W → W.cell? (a5.add (nxF rows k c)) = some (.int .i64 (kyF g (nxF rows k c) : Int))) := ⟨fun W hW => by
            obtain ⟨a6, e6, k6⟩ := at_num (Kd.C_below cG hW) (nxF rows k c) (by rw [ints_length]; exact hgt)
            cases e6
            rw [ints_get _ _ _ hgt, ← kyF_get hgt] at k6
            exact k6⟩
           rcases hfd with ⟨hfn, hm1, hnm⟩ | ⟨j, hfj, hm1, hjl2⟩
           ·rw [row_none hfn] at HR1
            have HR := Aside0.mk HR1
            rw [List.getElem?_eq_getElem hl2] at hm1
            rw [Option.some.inj hm1] at etab
            have hTj2 := Aside0.mk (tab_push hTj.out hkL hnm)
            have hlL := tab_le hTj2.out
            have hq2 := hq.set hbT2 (kyF g (nxF rows k c)) (lj.length : Int)
            have htr2 := Aside0.mk htr
            rw [List.length_append, List.length_singleton] at hlL
            clear HR1 hfn hm1 hnm hgt hTj htr
            generalize kyF g (nxF rows k c) = kt at *
            generalize nxF rows k c = t at *
            have hm0 : ((-1 : Int) < 0) = True := eq_true (by omega)
            go_wp2_with fail
            go_quiet (fail)
            generalize nq = n1
            go_wp2_with fail
            go_quiet (fail)
            have h5 := hq2.step (pw_below_drewN (Below.refl _ _) (n1 + nq))
            go_wp2_with (first
             | ((with_reducible refine gate_builtin (b := .append) (xs := #[.tmp 120, .tmp 122]) rfl ?_); go_loud (at_builtin; refine R_append' (Kd.int .i64) (w0 := w3) w3.heap.size rfl (.tmp 120) (.tmp 122) 86 2 (.int .i64 0) 8 rfl Tryd.underlying86 info_long rfl (by decide) (by decide) (.slice (some a7) lj.length c') (ints lj) (t : Int) [.int .i64 (t : Int)] (fun _ => True) (fun _ => False) _ (by simp) rfl rfl rfl (fun _ h => h.elim) (fun _ _ => trivial) h5.lst h5.bel (Below.size h5.bel) (by rw [ints_length]; omega) ?_; intro v6 w6 hR6 hb6 hg6 hat6; obtain ⟨A8, c8, hv6⟩ := Kd.R_slice hR6; have ev6 : (ints lj ++ [(t : Int)]).length = lj.length + 1 := (by simp [ints, GwI.ints]); rw [ev6] at hv6; clear ev6; subst hv6; have h6 := h5.push (Kd.R_lt h5.tab gT rfl) hg6 hat6 hR6 hb6; have eg6 := hgk.out _ h6.bel; have et6 : w6.cell? ⟨gT, kt, none⟩ = some (.int .i64 (lj.length : Int)) := (by have h := sr_at h6.tab (i := kt) (by rw [List.length_set]; exact hl2); rw [List.getElem_set_self] at h; exact h)))
             | ((with_reducible refine gate_builtin (b := .append) (xs := #[.tmp 124, .tmp 132]) rfl ?_); go_loud (at_builtin; refine R_append' (Kd.int .i64) (w0 := w3) w3.heap.size rfl (.tmp 124) (.tmp 132) 86 2 (.int .i64 0) 8 rfl Tryd.underlying86 info_long rfl (by decide) (by decide) (.slice Ar r.length cr) (ints r) (lj.length : Int) [.int .i64 (lj.length : Int)] (fun _ => True) (fun _ => False) _ (by simp) rfl rfl rfl (fun _ h => h.elim) (fun _ _ => trivial) h6.row h6.bel (Below.size h6.bel) (by have := hrc.out; rw [ints_length]; omega) ?_; intro v7 w7 hR7 hb7 hg7 hat7; obtain ⟨A6, c6, hv7⟩ := Kd.R_slice hR7; have ev : (ints r ++ [(lj.length : Int)]).length = (r ++ [lj.length]).length := (by simp [ints, GwI.ints]); rw [ev] at hv7; clear ev; subst hv7; have h7 := h6.more (Kd.R_lt h6.tab gT rfl) hg7 hat7 hR7 hb7)))
            go_roundg (wd - (c + 1))
            case measure => have := hkq.out; omega
            case rel => exact ⟨c + 1, lj ++ [t], r ++ [lj.length], _, A8, c8, A6, c6, (by simp), (by simp), (by go_num), by omega, ⟨rfl⟩, ⟨by have := hrc.out; simp; omega⟩, ⟨HR.out.1, by rw [List.append_assoc]; exact HR.out.2⟩, ⟨fun q hq => (List.mem_append.1 hq).elim (hQj.out q) (fun h => by rw [List.mem_singleton.1 h]; exact htr2.out)⟩, ⟨by rw [List.getElem?_append_left hij]; exact hji.out⟩, hTj2, ⟨by have e : (lj ++ [t]).length = lj.length + 1 := (by simp); rw [e]; exact h7⟩⟩
           ·rw [row_some hfj] at HR1
            have HR := Aside0.mk HR1
            rw [List.getElem?_eq_getElem hl2] at hm1
            rw [Option.some.inj hm1] at etab
            clear HR1 hfj hm1 hgt fT htr
            generalize kyF g (nxF rows k c) = kt at *
            generalize nxF rows k c = t at *
            have hjn : ((j : Int) < 0) = False := eq_false (by omega)
            go_wp2_with fail
            go_quiet (fail)
            generalize nq = n1
            go_wp2_with fail
            go_quiet (fail)
            have h6 := hq.step (pw_below_drewN (Below.refl _ _) (n1 + nq))
            go_wp2_with (((with_reducible refine gate_builtin (b := .append) (xs := #[.tmp 124, .tmp 132]) rfl ?_); go_loud (at_builtin; refine R_append' (Kd.int .i64) (w0 := w3) w3.heap.size rfl (.tmp 124) (.tmp 132) 86 2 (.int .i64 0) 8 rfl Tryd.underlying86 info_long rfl (by decide) (by decide) (.slice Ar r.length cr) (ints r) (j : Int) [.int .i64 (j : Int)] (fun _ => True) (fun _ => False) _ (by simp) rfl rfl rfl (fun _ h => h.elim) (fun _ _ => trivial) h6.row h6.bel (Below.size h6.bel) (by have := hrc.out; rw [ints_length]; omega) ?_; intro v7 w7 hR7 hb7 hg7 hat7; obtain ⟨A6, c6, hv7⟩ := Kd.R_slice hR7; have ev : (ints r ++ [(j : Int)]).length = (r ++ [j]).length := (by simp [ints, GwI.ints]); rw [ev] at hv7; clear ev; subst hv7; have h7 := h6.more (Kd.R_lt h6.tab gT rfl) hg7 hat7 hR7 hb7)))
            go_roundg (wd - (c + 1))
            case measure => have := hkq.out; omega
            case rel => exact ⟨c + 1, lj, r ++ [j], tab2, some a7, c', A6, c6, rfl, (by simp), (by go_num), by omega, ⟨rfl⟩, ⟨by have := hrc.out; simp; omega⟩, ⟨HR.out.1, by rw [List.append_assoc]; exact HR.out.2⟩, hQj, hji, hTj, ⟨h7⟩⟩
          ·have hcc : c = wd := by omega
           subst hcc
           have HR1 := HR.out
           simp only [List.drop_of_length_le (Nat.le_of_eq (List.length_range (n := c))), row, List.append_nil] at HR1
           have HR2 := Aside0.mk HR1
           clear HR1 HR
           have hlt2 : ((c : Int) < (c : Int)) = False := eq_false (by omega)
           go_wp2_with fail
           go_quiet (fail)
           go_wp2_with fail
           have h4 := hq.step (pw_below_drewN (Below.refl _ _) nq)
           clear e7 e3 e9 hl9 hC9 hq
           generalize wr.drewN nq = wz at *
           have hka : k < accs.length := by rw [← hlen.out]; exact hkr
           obtain ⟨am, rfl, _⟩ := at_mark cA3 k hka
           have hka1 : ((k : Int) < (accs.length : Int)) = True := eq_true (by omega)
           obtain ⟨bx, hbx⟩ : ∃ bx, Aside0 (acF accs k = bx) := ⟨_, ⟨rfl⟩⟩
           have hB : ∀ W', Below w3.heap.size w3 W' → SR W' w3.heap.size (.slice (some a7) lj.length c') (ints lj) → W'.cell? ⟨gX, 2, none⟩ = some (.slice (some am) accs.length c1) ∧ W'.cell? (a7.add i) = some (.int .i64 (k : Int)) ∧ W'.cell? (am.add k) = some (.bool bx) := by
            intro W' hb hL
            obtain ⟨a8, e8, k8⟩ := sr_at' hL (i := i) (by rw [ints_length]; exact hij)
            cases e8
            rw [ints_get lj i _ hij, (List.getElem?_eq_some_iff.1 hji.out).2] at k8
            obtain ⟨a9, e9, k9⟩ := at_mark (Kd.C_below cA3 hb) k hka
            cases e9
            rw [← acF_get hka, hbx.out] at k9
            exact ⟨(blk_cell (blk_below fX3 hb) 2).trans rfl, k8, k9⟩
           have hSS : ∀ W' vA' bs', Tt w3 tapes gV gT L cT tab2 (.slice (some a7) lj.length c') lj (.slice Ar r.length cr) r vA' bs' vN rw_ W' → W'.cell? ⟨gV, 2, none⟩ = some vA' ∧ W'.cell? ⟨gX, 2, none⟩ = some (.slice (some am) accs.length c1) ∧ W'.cell? (a7.add i) = some (.int .i64 (k : Int)) ∧ W'.cell? (am.add k) = some (.bool bx) := fun W' vA' bs' h => ⟨(blk_cell h.bV 2).trans rfl, hB W' h.bel h.lst⟩
           have hQd := h4.step (below_drew1 (Below.refl _ _))
           refine start_ (n := 14) (S := fun w' => w'.cell? ⟨gV, 2, none⟩ = some vA ∧ w'.cell? ⟨gX, 2, none⟩ = some (.slice (some am) accs.length c1) ∧ w'.cell? (a7.add i) = some (.int .i64 (k : Int)) ∧ w'.cell? (am.add k) = some (.bool bx)) (ds := [13]) (.replicate 14 false) (by kernel_rfl) rfl rfl (hSS _ _ _ hQd) (fun hHeld => ?_)
           refine pure_ (i := 0) (N := some 134) (v := ?_) (a' := ?_) (zb 14 1) rfl rfl (by kernel_rfl) (fun _ _ _ h => h) (Or.inl ⟨by rfl, ?_⟩) ?_ ?_
           rotate_left
           ·intro w'
            go_simp
            with_reducible rfl
           rotate_left
           ·simp only [Act.put, Za, Zb, Zc, i64_w, i32_w]
            rfl
           refine pure_ (i := 2) (N := some 136) (v := ?_) (a' := ?_) (zb 14 5) rfl rfl (by kernel_rfl) (fun _ _ _ h => h) (Or.inl ⟨by rfl, ?_⟩) ?_ ?_
           rotate_left
           ·intro w'
            go_simp
            with_reducible rfl
           rotate_left
           ·simp only [Act.put, Za, Zb, Zc, i64_w, i32_w]
            rfl
           refine pure_ (i := 4) (N := some 138) (v := ?_) (a' := ?_) (zb 14 21) rfl rfl (by kernel_rfl) (fun _ _ _ h => h) (Or.inl ⟨by rfl, ?_⟩) ?_ ?_
           rotate_left
           ·intro w'
            go_simp
            with_reducible rfl
           rotate_left
           ·simp only [Act.put, Za, Zb, Zc, i64_w, i32_w]
            rfl
           refine pure_ (i := 5) (N := some 139) (v := ?_) (a' := ?_) (zb 14 53) rfl rfl (by kernel_rfl) (fun _ _ _ h => h) (Or.inl ⟨by rfl, ?_⟩) ?_ ?_
           rotate_left
           ·intro w'
            go_simp
            with_reducible rfl
           rotate_left
           ·simp only [Act.put, Za, Zb, Zc, i64_w, i32_w]
            rfl
           refine pure_ (i := 6) (N := some 140) (v := ?_) (a' := ?_) (zb 14 117) rfl rfl (by kernel_rfl) (fun _ _ _ h => h) (Or.inl ⟨by rfl, ?_⟩) ?_ ?_
           rotate_left
           ·intro w'
            go_simp
            with_reducible rfl
           rotate_left
           ·simp only [Act.put, Za, Zb, Zc, i64_w, i32_w]
            rfl
           refine take_ (i := 1) (N := some 135) (v := ?_) (a' := ?_) (zb 14 119) rfl rfl (by kernel_rfl) (fun _ _ _ h => h) (Or.inl ⟨by rfl, ?_⟩) hHeld ?_ ?_
           rotate_left
           ·rintro w' ⟨s1, s2, s3, s4⟩
            go_simp
            with_reducible rfl
           rotate_left
           ·simp only [Act.put, Za, Zb, Zc, i64_w, i32_w]
            rfl
           refine take_ (i := 3) (N := some 137) (v := ?_) (a' := ?_) (zb 14 127) rfl rfl (by kernel_rfl) (fun _ _ _ h => h) (Or.inl ⟨by rfl, ?_⟩) hHeld ?_ ?_
           rotate_left
           ·rintro w' ⟨s1, s2, s3, s4⟩
            go_simp
            with_reducible rfl
           rotate_left
           ·simp only [Act.put, Za, Zb, Zc, i64_w, i32_w]
            rfl
           refine take_ (i := 7) (N := some 141) (v := ?_) (a' := ?_) (zb 14 255) rfl rfl (by kernel_rfl) (fun _ _ _ h => h) (Or.inl ⟨by rfl, ?_⟩) hHeld ?_ ?_
           rotate_left
           ·rintro w' ⟨s1, s2, s3, s4⟩
            go_simp
            with_reducible rfl
           rotate_left
           ·simp only [Act.put, Za, Zb, Zc, i64_w, i32_w]
            rfl
           refine pure_ (i := 8) (N := some 142) (v := ?_) (a' := ?_) (zb 14 511) rfl rfl (by kernel_rfl) (fun _ _ _ h => h) (Or.inl ⟨by rfl, ?_⟩) ?_ ?_
           rotate_left
           ·intro w'
            go_simp
            with_reducible rfl
           rotate_left
           ·simp only [Act.put, Za, Zb, Zc, i64_w, i32_w]
            rfl
           refine take_ (i := 9) (N := some 143) (v := ?_) (a' := ?_) (zb 14 1023) rfl rfl (by kernel_rfl) (fun _ _ _ h => h) (Or.inl ⟨by rfl, ?_⟩) hHeld ?_ ?_
           rotate_left
           ·rintro w' ⟨s1, s2, s3, s4⟩
            go_simp
            with_reducible rfl
           rotate_left
           ·simp only [Act.put, Za, Zb, Zc, i64_w, i32_w]
            rfl
           refine one_ (i := 10) (N := some 144) (zb 14 2047) rfl rfl (by kernel_rfl) (by decide) (fun K hK => ?_)
           refine value_ (w1 := wz.drew.alloc (.cells #[.bool bx] 4)) (v := .slice (some ⟨wz.drew.heap.size, 0, none⟩) 1 1) (by rfl) rfl (by first | (go_simp; done) | (go_simp; rfl)) ?_
           have hQ5 := hQd.step (below_alloc (Below.refl _ _) (.cells #[.bool bx] 4))
           refine hK.out _ _ (hSS _ _ _ hQ5) (fun hHeld => ?_)
           clear hK K
           refine norm_ (a' := ?_) ?_ ?_
           rotate_left
           ·show Act.put _ (some 144) _ = _
            simp only [Act.put, Za, Zb, Zc, i64_w, i32_w]
            rfl
           refine one_ (i := 11) (N := some 145) (zb 14 4095) rfl rfl (by kernel_rfl) (by decide) (fun K hK => ?_)
           refine Kd.R_append_step Kd.bool (w0 := w3) w3.heap.size (by rfl) (.tmp 135) (.tmp 144) 22 4 (.bool false) 1 rfl Tryd.underlying22 GwI.info_bool rfl (by decide) (by decide) vA ((li.take i).map (acF accs)) bx [.bool bx] (fun _ => True) (fun _ => False) rfl rfl rfl (fun _ h => h.elim) (fun _ _ => trivial) hQd.acc hQd.bel (Below.size hQd.bel) (by simp <;> omega) ?_
           intro v6 w6 hR6 hb6 hg6 hat6
           obtain ⟨A6, c6, hv6⟩ := Kd.R_slice hR6
           subst hv6
           obtain ⟨b26, hQ6⟩ := hQd.mark hg6 hR6 hb6
           refine hK.out _ _ ⟨(blk_cell b26 2).trans rfl, hB _ hb6 (R_off hQd.lst (Keep.grown hg6) (Off.row hQd.acc (by decide)))⟩ (fun hHeld => ?_)
           clear hK K
           refine norm_ (a' := ?_) ?_ ?_
           rotate_left
           ·show Act.put _ (some 145) _ = _
            simp only [Act.put, Za, Zb, Zc, i64_w, i32_w]
            rfl
           refine pure_ (i := 12) (N := some 146) (v := ?_) (a' := ?_) (zb 14 8191) rfl rfl (by kernel_rfl) (fun _ _ _ h => h) (Or.inl ⟨by rfl, ?_⟩) ?_ ?_
           rotate_left
           ·intro w'
            go_simp
            with_reducible rfl
           rotate_left
           ·simp only [Act.put, Za, Zb, Zc, i64_w, i32_w]
            rfl
           refine last_ (i := 13) (N := none) (zb 14 16383) rfl rfl (by kernel_rfl) (by decide) (fun K hK => ?_)
           have hf6 : w6.frozen? ⟨gV, 2, none⟩ = false := blk_frozen b26 2
           have hc6 : w6.cell? ⟨gV, 2, none⟩ = some vA := (blk_cell b26 2).trans rfl
           refine skip_ (w1 := w6.setCell ⟨gV, 2, none⟩ (.slice A6 (((li.take i).map (acF accs)) ++ [bx]).length c6)) (by rfl) rfl (by first | (go_simp; done) | (go_simp; rfl)) ?_
           refine hK.out _ _ ?_
           clear hK K
           refine done_ (by kernel_rfl) ?_
           clear hSS hB hQd hQ5 hf6 hc6 b26 hR6 hb6 hg6 hHeld h4
           generalize w6.setCell ⟨gV, 2, none⟩ (.slice A6 (((li.take i).map (acF accs)) ++ [bx]).length c6) = w7 at *
           have c73 : w7.cell? ⟨gV, 3, none⟩ = some vN := (blk_cell hQ6.bV 3).trans rfl
           have hrow : (Kd.int .i64).R 2 w7 w3.heap.size (fun j => some j = (Value.slice Ar r.length cr).ownBlock) (.slice Ar r.length cr) (ints r) := Kd.R_of_own (Kd.own_of_R hQ6.row) (fun j hj => hj.symm)
           have hgT7 := Kd.R_lt hQ6.tab gT rfl
           have hLt7 := Kd.R_lt hQ6.lst
           have hrl2 : rw_.length ≤ 1000000 := by have := hrl.out; omega
           go_wp2_with ((with_reducible refine gate_builtin (b := .append) (xs := #[.tmp 148, .tmp 150]) rfl ?_); go_loud (at_builtin; refine S_append' (Kd.slice 2 (Kd.int .i64)) (w0 := w3) w3.heap.size rfl (.tmp 148) (.tmp 150) 23 86 (.slice none 0 0) 24 rfl Tryd.underlying23 info_longs rfl (by decide) (by decide) vN (rw_.map ints) (ints r) [.slice Ar r.length cr] (fun j => j ≠ gT ∧ some j ≠ (Value.slice (some a7) lj.length c').ownBlock) (fun j => some j = (Value.slice Ar r.length cr).ownBlock ∧ some j ≠ vN.ownBlock) _ (by simp) rfl rfl (Kd.M_row (R_typed hrow (Kd.S_R hQ6.out) (by decide))) (fun j hj => ⟨⟨fun e => hQ6.tr (by rw [← hj.1, e]), fun e => hQ6.lr j e.symm hj.1⟩, hj.2⟩) (fun j hj => ⟨by omega, fun e => by have := hLt7 j e.symm; omega⟩) (Kd.S_mono hQ6.out (fun j hj => ⟨⟨hj.1, hj.2.1⟩, fun h => hj.2.2 h.1⟩)) hQ6.bel (Below.size hQ6.bel) (by rw [List.length_map]; omega) ?_; intro v8 w8 hR8 hb8 hg8 hat8; obtain ⟨A8, c8, hv8⟩ := Kd.S_slice hR8; have ev8 : (rw_.map ints ++ [ints r]).length = rw_.length + 1 := (by simp); rw [ev8] at hv8; subst hv8; obtain ⟨b28, h8⟩ := hQ6.nxt hg8 hR8 hb8; have c83 : w8.cell? ⟨gV, 3, none⟩ = some vN := (blk_cell b28 3).trans rfl; have f83 : w8.frozen? ⟨gV, 3, none⟩ = false := blk_frozen b28 3))
           go_roundg kf
           case measure => omega
           case rel =>
            obtain ⟨hm1, hm2⟩ := row_prefix (key := kyF g) (nxt := nxF rows) (s := k) (List.range c) li
            have hil3 : i + 1 ≤ lj.length := by omega
            have e1 : (lj.take (i + 1)).map (acF accs) = (li.take i).map (acF accs) ++ [bx] := by
             rw [HR2.out.1, hm2, List.take_append_of_le_length (by omega), List.take_succ_eq_append_getElem hlt, List.map_append, ← hbx.out, HK.out]
             rfl
            exact ⟨i + 1, lj, rw_ ++ [r], tab2, some a7, c', .slice A6 (((li.take i).map (acF accs)) ++ [bx]).length c6, .slice A8 (rw_.length + 1) c8, rfl, (by go_num), ⟨by rw [HR2.out.1, HR2.out.2]; exact HH.out⟩, ⟨by have := hrl.out; simp; omega⟩, hil3, hQj, hTj, ⟨by rw [e1]; exact h8⟩⟩
        ·have hii : i = li.length := by omega
         subst hii
         cases gk with
         | zero => exact absurd H.out (by simp [bfs])
         | succ kf =>
         have H1 := H.out
         unfold bfs at H1
         rw [dif_neg (by omega)] at H1
         simp only [Option.some.injEq, Prod.mk.injEq] at H1
         obtain ⟨rfl, rfl⟩ := H1
         rw [List.take_of_length_le (Nat.le_refl _)] at h
         have hlt1 : ((li.length : Int) < (li.length : Int)) = False := eq_false (by omega)
         obtain ⟨AA2, cA2, rfl⟩ := Kd.R_slice h.acc
         obtain ⟨AN2, cN2, rfl⟩ := Kd.S_slice h.out
         rw [List.length_map] at h
         have hbV := h.bV
         rw [List.length_map, hrl.out] at hbV
         have d0 : wo.cell? ⟨gV, 0, none⟩ = some (.int .i64 tapes) := (blk_cell hbV 0).trans rfl
         have d1 : wo.cell? ⟨gV, 1, none⟩ = some (.int .i64 0) := (blk_cell hbV 1).trans rfl
         have d2 : wo.cell? ⟨gV, 2, none⟩ = some (.slice AA2 li.length cA2) := (blk_cell hbV 2).trans rfl
         have d3 : wo.cell? ⟨gV, 3, none⟩ = some (.slice AN2 li.length cN2) := (blk_cell hbV 3).trans rfl
         have b := blk_below fR3 h.bel
         have e0 : wo.cell? ⟨w.heap.size, 0, none⟩ = some (.int .i64 0) := (blk_cell b 0).trans rfl
         have e1 : wo.cell? ⟨w.heap.size, 1, none⟩ = some (.int .i64 0) := (blk_cell b 1).trans rfl
         have e2 : wo.cell? ⟨w.heap.size, 2, none⟩ = some (.slice none 0 0) := (blk_cell b 2).trans rfl
         have e3 : wo.cell? ⟨w.heap.size, 3, none⟩ = some (.slice none 0 0) := (blk_cell b 3).trans rfl
         have f0 : wo.frozen? ⟨w.heap.size, 0, none⟩ = false := blk_frozen b 0
         have f1 : wo.frozen? ⟨w.heap.size, 1, none⟩ = false := blk_frozen b 1
         have f2 : wo.frozen? ⟨w.heap.size, 2, none⟩ = false := blk_frozen b 2
         have f3 : wo.frozen? ⟨w.heap.size, 3, none⟩ = false := blk_frozen b 3
         have hbel := below_step bW h.bel
         go_wp2_with fail
         have hA := Kd.R_lower h.acc (Below.size bW)
         have hbs2 : li.map (acF accs) = bs := hbss.out
         rw [hbs2] at hA
         have hN := Kd.S_lower h.out (Below.size bW)
         clear d0 d1 d2 d3 e0 e1 e2 e3 f0 f1 f2 f3
         rw [List.length_map, hrl.out] at hN
         have b1 := blk_put b 0 (.int .i64 tapes) rfl
         have b2 := blk_put b1 1 (.int .i64 0) rfl
         have b3 := blk_put b2 2 (.slice AA2 li.length cA2) rfl
         have b4 := blk_put b3 3 (.slice AN2 li.length cN2) rfl
         refine bodyPost_ret (results_cell_row rfl _ _ w.heap.size 29 #[.int .i64 tapes, .int .i64 0, .slice AA2 li.length cA2, .slice AN2 li.length cN2] (0, 0) _ rfl b4 Tryd.underlying29 rfl (by kernel_rfl)) rfl ⟨_, _, rfl, ?_, ?_, ?_⟩
         ·exact Kd.R_set (Kd.R_set (Kd.R_set (Kd.R_set hA b (by decide) 0 _) b1 (by decide) 1 _) b2 (by decide) 2 _) b3 (by decide) 3 _
         ·exact Kd.S_mono (Kd.S_set (Kd.S_set (Kd.S_set (Kd.S_set hN b (by decide) 0 _) b1 (by decide) 1 _) b2 (by decide) 2 _) b3 (by decide) 3 _) (fun _ _ => trivial)
         ·exact (((hbel.setCell (by simp) _).setCell (by simp) _).setCell (by simp) _).setCell (by simp) _
    ·have hd1 : ((L : Int) == (n' : Int)) = false := by simp; omega
     go_wp2_with (go_at_call 109; go_loud (with_reducible refine (hF2.out _ gX A1 c1 A2 c2 A4 c4 (blk_below fX hb) (Kd.C_below cA hb) hc1 (Kd.C_below cN hb) hc2 (by rw [ints_length] at hCg; exact hCg) hq2 hgl.out).mono ?_; rintro e w3 ⟨v0, rfl, r3, hb3⟩; obtain ⟨A5, c5, rfl⟩ := Kd.R_slice r3; rw [ints_length] at r3; have r5 := Kd.R_lower r3 (Below.size hb); have hb5 := below_step hb hb3))
     go_roundg kf
     case measure => omega
     case rel => exact ⟨out, L, A5, c5, by rw [ints_length], rfl, ⟨by have := hst2.out; rw [if_neg hLn] at this; exact this⟩, hnu2, ⟨hb5⟩, ⟨r5⟩⟩
end Go.Proofs.YtbamnonamdpooaaDoor.Tw
namespace Go.Proofs.YtbamnonamdpooaaDoor.To
set_option linter.unusedVariables false
set_option linter.unusedSimpArgs false
open Go.RowKit Go.Proofs.YtbamnonamdpooaaDoorW.PrintWords Go.Proofs.YtbamnonamdpooaaDoorW.PrintLast Go.Proofs.YtbamnonamdpooaaDoorW.PrintMore Kp Cl Mg Td Tdy
set_option maxHeartbeats 8000000 in
set_option maxRecDepth 100000 in
theorem tidyOf (tapes : Nat) (htp : tapes ≤ 3) (start : Nat) (accs : List Bool) (rows : List (List Nat)) (wd : Nat) (hwd1 : 0 < wd) (hwd2 : wd ≤ 30) (hcl : Closed wd rows accs) (hn : rows.length ≤ 100000) (hst : start < rows.length)
  (hwd : ∀ W, Calls Tryd.prog 124 #[.int .i64 tapes] W fun e W' => e = .returned (.int .i64 wd) ∧ Below W.heap.size W W')
  (dig : Nat → List Nat) (hdl : ∀ c, c < wd → (dig c).length = tapes) (hds : ∀ c, c < wd → ∀ d ∈ dig c, d < 3)
  (hdig : ∀ W c, c < wd → Calls Tryd.prog 69 #[.int .i64 tapes, .int .i64 (c : Int)] W fun e W' => ∃ v, e = .returned v ∧ Kd.R (Kd.int .i64) 3 W' W.heap.size (fun _ => True) v (ints (dig c)) ∧ Below W.heap.size W W')
  (w : World) (hG : It.Glob w) (AA : Option Addr) (ca : Nat) (AN : Option Addr) (cn : Nat) (hA : Kd.C Kd.bool w AA accs.length accs) (hN : Kd.C (Kd.slice 2 (Kd.int .i64)) w AN rows.length (rows.map ints)) (hca : accs.length ≤ ca) (hcn : rows.length ≤ cn) (bs : List Bool) (rws : List (List Nat)) (ht : Tidied wd rows accs start (padOf dig) bs rws) :
  Calls Tryd.prog 53 #[.agg #[.int .i64 tapes, .int .i64 start, .slice AA accs.length ca, .slice AN rows.length cn]] w fun e w' => ∃ vA vN, e = .returned (.agg #[.int .i64 tapes, .int .i64 0, vA, vN]) ∧
   Kd.R Kd.bool 4 w' w.heap.size (fun _ => True) vA bs ∧ Kd.R (Kd.slice 3 (Kd.int .i64)) 97 w' w.heap.size (fun _ => True) vN (rws.map ints) ∧ Below w.heap.size w w' := by
 have hlen := hcl.len
 have hmo : ∀ W, Below w.heap.size w W → _ := fun W hb => Mo.machineOf tapes start accs (rows.map ints) (by omega) (by omega) (by rw [List.length_map]; omega) (by
  intro r hr
  obtain ⟨x, hx, rfl⟩ := List.mem_map.1 hr
  rw [ints_length, hcl.wide x hx]
  omega) W AA ca AN cn (Kd.C_below hA hb) hca (by rw [List.length_map]; exact Kd.C_below hN hb) (by rw [List.length_map]; exact hcn)
 have hcl2 := Aside0.mk hcl
 have hl2 := Aside0.mk hlen
 rw [List.length_map] at hmo
 have ht2 := Aside0.mk ht
 clear hcl hlen hA hN
 go_enter Tryd.func53, Tryd.ntmps53
 go_wp2_with (first
  | (go_at_call 113; go_loud (refine (hmo _ (below_alloc (below_alloc (Below.refl _ _) _) _)).mono ?_; rintro e w1 ⟨vA, vN, rfl, r1, r2, hb1⟩; obtain ⟨A1, c1, rfl, hc1, hC1⟩ := Kd.R_reads r1; obtain ⟨A2, c2, rfl, hc2, hC2⟩ := Kd.R_reads r2; rw [List.length_map] at hc2 hC2 ⊢; have hB1 := below_step (below_alloc (below_alloc (Below.refl _ _) _) _) hb1; have bR1 := blk_below (blk_at (w.alloc (.cells #[.int .i64 (tapes : Int), .int .i64 (start : Int), .slice AA accs.length ca, .slice AN rows.length cn] 29)) (.cells #[.int .i64 0, .int .i64 0, .slice none 0 0, .slice none 0 0] 77) (w.heap.size + 1) (by simp)) hb1))
  | (go_at_call 114; go_loud (refine Calls.mono (tidy It.T It.T_size It.Glob It.glob_below It.itoa It.inj tapes htp start accs rows wd hwd1 hwd2 hcl2.out hn hst hwd dig hdl hds hdig w1 (It.glob_below _ _ hG hB1) A1 c1 A2 c2 hC1 hC2 hc1 hc2 bs rws ht2.out) ?_; rintro e w8 ⟨vA, vN, rfl, q1, q2, hb8⟩; obtain ⟨A3, c3, rfl⟩ := Kd.R_slice q1; obtain ⟨A4, c4, rfl⟩ := Kd.R_slice q2; rw [List.length_map] at q2 ⊢; have b0 := blk_below bR1 hb8; have e0 : w8.cell? ⟨w.heap.size + 1, 0, none⟩ = some (.int .i64 0) := (blk_cell b0 0).trans rfl; have e1 : w8.cell? ⟨w.heap.size + 1, 1, none⟩ = some (.int .i64 0) := (blk_cell b0 1).trans rfl; have e2 : w8.cell? ⟨w.heap.size + 1, 2, none⟩ = some (.slice none 0 0) := (blk_cell b0 2).trans rfl; have e3 : w8.cell? ⟨w.heap.size + 1, 3, none⟩ = some (.slice none 0 0) := (blk_cell b0 3).trans rfl; have g0 : w8.frozen? ⟨w.heap.size + 1, 0, none⟩ = false := blk_frozen b0 0; have g1 : w8.frozen? ⟨w.heap.size + 1, 1, none⟩ = false := blk_frozen b0 1; have g2 : w8.frozen? ⟨w.heap.size + 1, 2, none⟩ = false := blk_frozen b0 2; have g3 : w8.frozen? ⟨w.heap.size + 1, 3, none⟩ = false := blk_frozen b0 3)))
 have hB8 := below_step hB1 hb8
 have q3 := Kd.R_lower q1 (Below.size hB1)
 have q4 := Kd.R_lower q2 (Below.size hB1)
 have b1 := blk_put b0 0 (.int .i64 (tapes : Int)) rfl
 have b2 := blk_put b1 1 (.int .i64 0) rfl
 have b3 := blk_put b2 2 (.slice A3 bs.length c3) rfl
 have b4 := blk_put b3 3 (.slice A4 rws.length c4) rfl
 refine bodyPost_ret (results_cell_row rfl _ _ (w.heap.size + 1) 77 #[.int .i64 tapes, .int .i64 0, .slice A3 bs.length c3, .slice A4 rws.length c4] (0, 0) _ rfl b4 Tryd.underlying77 rfl (by kernel_rfl)) rfl ⟨_, _, rfl, ?_, ?_, ?_⟩
 ·exact Kd.R_set (Kd.R_set (Kd.R_set (Kd.R_set q3 b0 (by decide) 0 _) b1 (by decide) 1 _) b2 (by decide) 2 _) b3 (by decide) 3 _
 ·exact Kd.R_set (Kd.R_set (Kd.R_set (Kd.R_set q4 b0 (by decide) 0 _) b1 (by decide) 1 _) b2 (by decide) 2 _) b3 (by decide) 3 _
 ·exact (((hB8.setCell (by simp) _).setCell (by simp) _).setCell (by simp) _).setCell (by simp) _
end Go.Proofs.YtbamnonamdpooaaDoor.To
namespace Go.Proofs.YtbamnonamdpooaaDoor.Tid
set_option linter.unusedVariables false
set_option linter.unusedSimpArgs false
open Go.RowKit Go.Proofs.YtbamnonamdpooaaDoorW.PrintWords Go.Proofs.YtbamnonamdpooaaDoorW.PrintLast Go.Proofs.YtbamnonamdpooaaDoorW.PrintMore Tdy Td Mg Rg Ti Tf PB1
def Glob (w : World) : Prop := It.Glob w
theorem glob_below {w w' : World} (h : Glob w) (hb : Below w.heap.size w w') : Glob w' := It.glob_below _ _ h hb
def nats (l : List Int) : List Nat := l.map Int.toNat
/-- What is right enough to be made tidy. -/
def okM (a0 a1 : Int) (l2 : List Bool) (l3 : List (List Int)) : Prop := (1 ≤ a0 ∧ a0 ≤ 3) ∧ (0 ≤ a1 ∧ a1 < (l3.length : Int)) ∧ l2.length = l3.length ∧ l3.length ≤ 100000 ∧ ∀ r ∈ l3, r.length = wdOf a0.toNat ∧ ∀ x ∈ r, 0 ≤ x ∧ x < (l3.length : Int)
instance (a0 a1 : Int) (l2 : List Bool) (l3 : List (List Int)) : Decidable (okM a0 a1 l2 l3) := by unfold okM; infer_instance
def tidM (a0 a1 : Int) (l2 : List Bool) (l3 : List (List Int)) : List Bool × List (List Nat) := tidL (wdOf a0.toNat) (l3.map nats) l2 a1.toNat (padT a0.toNat)
def tidF (a0 a1 : Int) (l2 : List Bool) (l3 : List (List Int)) : Option (Int × Int × List Bool × List (List Int)) := if okM a0 a1 l2 l3 then some (a0, 0, (tidM a0 a1 l2 l3).1, (tidM a0 a1 l2 l3).2.map ints) else none
def impl_tidyOf.f (a0_0 a0_1 : Int) (l0_2 : List Bool) (l0_3 : List (List Int)) : Option (Int × Int × List Bool × List (List Int)) := tidF a0_0 a0_1 l0_2 l0_3
def spec_l01Tidied.f (a0_0 a0_1 : Int) (l0_2 : List Bool) (l0_3 : List (List Int)) : Option (Int × Int × List Bool × List (List Int)) := tidF a0_0 a0_1 l0_2 l0_3
theorem nats_ints {l : List Int} (h : ∀ x ∈ l, 0 ≤ x) : ints (nats l) = l := by
 have e : (l.map Int.toNat).map Int.ofNat = l := by
  rw [List.map_map]
  conv => rhs; rw [← List.map_id l]
  exact List.map_congr_left (fun x hx => by have := h x hx; simp; omega)
 exact e
theorem rows_ints {l : List (List Int)} (h : ∀ r ∈ l, ∀ x ∈ r, 0 ≤ x) : (l.map nats).map ints = l := by
 rw [List.map_map]
 conv => rhs; rw [← List.map_id l]
 exact List.map_congr_left (fun r hr => nats_ints (h r hr))
/-- The parts of a right machine, as natural numbers. -/
structure Ok (a0 a1 : Int) (l2 : List Bool) (l3 : List (List Int)) (t s : Nat) (rows : List (List Nat)) : Prop where
 t0 : a0 = (t : Int)
 t1 : 0 < t
 t2 : t < 4
 s0 : a1 = (s : Int)
 rw_ : rows = l3.map nats
 eq : l3 = rows.map ints
 s1 : s < rows.length
 cl : Closed (wdOf t) rows l2
 n : rows.length ≤ 100000
theorem okM_ok {a0 a1 : Int} {l2 : List Bool} {l3 : List (List Int)} (h : okM a0 a1 l2 l3) : Ok a0 a1 l2 l3 a0.toNat a1.toNat (l3.map nats) := by
 obtain ⟨⟨h1, h2⟩, ⟨h3, h4⟩, h5, h6, h7⟩ := h
 have he := rows_ints (fun r hr x hx => ((h7 r hr).2 x hx).1)
 refine ⟨by omega, by omega, by omega, by omega, rfl, he.symm, by rw [List.length_map]; omega, ⟨by rw [List.length_map]; exact h5.symm, ?_, ?_⟩, by rw [List.length_map]; exact h6⟩
 ·intro r hr
  obtain ⟨r', hr', rfl⟩ := List.mem_map.1 hr
  simp only [nats, List.length_map]
  exact (h7 r' hr').1
 ·intro r hr q hq
  obtain ⟨r', hr', rfl⟩ := List.mem_map.1 hr
  obtain ⟨x, hx, rfl⟩ := List.mem_map.1 hq
  have := (h7 r' hr').2 x hx
  rw [List.length_map]
  omega
theorem two_pow {t : Nat} (h : t < 4) : 0 < 2 ^ t ∧ 2 ^ t ≤ 8 := by
 have : t = 0 ∨ t = 1 ∨ t = 2 ∨ t = 3 := by omega
 rcases this with rfl | rfl | rfl | rfl <;> decide
section
variable {a0 a1 : Int} {l2 : List Bool} {l3 : List (List Int)} {t s : Nat} {rows : List (List Nat)}
theorem Ok.pad (h : Ok a0 a1 l2 l3 t s rows) : ∀ c, c < wdOf t → padT t c < 2 ^ t := fun c hc => fin_pad t h.t2 c (by have := wd_le t h.t2; omega)
theorem Ok.made (h : Ok a0 a1 l2 l3 t s rows) : Made (wdOf t) rows l2 s (padT t) (tidL (wdOf t) rows l2 s (padT t)).1 (tidL (wdOf t) rows l2 s (padT t)).2 :=
 Ti.made h.cl h.s1 (fun c hc => Nat.lt_of_lt_of_le (h.pad c hc) (two_pow h.t2).2)
end
theorem impl_tidyOf.calls (a0_0 a0_1 : Int) (A0_2 : Option Addr) (c0_2 : Nat) (l0_2 : List Bool) (A0_3 : Option Addr) (c0_3 : Nat) (l0_3 : List (List Int)) (r1 r2 : Int) (r3 : List Bool) (r4 : List (List Int)) (w : World)
  (hr0_2 : Kd.C Kd.bool w A0_2 l0_2.length l0_2) (hc0_2 : l0_2.length ≤ c0_2) (hr0_3 : Kd.C (Kd.slice 2 (Kd.int .i64)) w A0_3 l0_3.length l0_3) (hc0_3 : l0_3.length ≤ c0_3) (hG : Glob w) (h : impl_tidyOf.f a0_0 a0_1 l0_2 l0_3 = some (r1, r2, r3, r4)) :
  Calls Tryd.prog 53 #[.agg #[.int .i64 a0_0, .int .i64 a0_1, .slice A0_2 l0_2.length c0_2, .slice A0_3 l0_3.length c0_3]] w fun e w' => ∃ v2_ v3_ : Value, e = .returned (.agg #[.int .i64 r1, .int .i64 r2, v2_, v3_]) ∧ Kd.R Kd.bool 4 w' w.heap.size (fun _ => True) v2_ r3 ∧ Kd.N (Kd.slice 3 (Kd.int .i64)) 97 w' w.heap.size (fun _ => True) v3_ r4 ∧ Below w.heap.size w w' := by
 unfold impl_tidyOf.f tidF at h
 split at h
 ·rename_i hok
  have hk := okM_ok hok
  have ht := made_tidied hk.made
  obtain ⟨rfl, rfl, rfl, rfl⟩ : a0_0 = r1 ∧ 0 = r2 ∧ (tidM a0_0 a0_1 l0_2 l0_3).1 = r3 ∧ (tidM a0_0 a0_1 l0_2 l0_3).2.map ints = r4 := by simpa using h
  have e0 := hk.t0
  have e1 := hk.s0
  have e3 := hk.eq
  have hN : Kd.C (Kd.slice 2 (Kd.int .i64)) w A0_3 (l0_3.map nats).length ((l0_3.map nats).map ints) := by rw [← e3, List.length_map]; exact hr0_3
  have hcall := To.tidyOf a0_0.toNat (by have := hk.t2; omega) a0_1.toNat l0_2 (l0_3.map nats) (wdOf a0_0.toNat) (wd_pos _ hk.t2 hk.t1) (by have := wd_le _ hk.t2; omega) hk.cl hk.n hk.s1
   (fun W => (impl_widthOf.calls 10 _ _ W (fin_wide _ hk.t2).1).mono (fun e W' hh => ⟨hh.1, hh.2.below⟩)) (digs a0_0.toNat) (fun c _ => digs_len _ _) (fun c _ => digs_lt _ _)
   (fun W c hc => (impl_digitsOf.calls 10 _ _ _ W (fin_digs _ hk.t2 c (by have := wd_le _ hk.t2; omega))).mono (fun e W' hh => by obtain ⟨v, h1, h2, h3⟩ := hh; exact ⟨v, h1, h2, h3⟩))
   w hG A0_2 c0_2 A0_3 c0_3 hr0_2 hN hc0_2 (by rw [List.length_map]; exact hc0_3) _ _ ht
  rw [List.length_map, ← e0, ← e1] at hcall
  refine hcall.mono ?_
  rintro e w' ⟨vA, vN, rfl, q1, q2, hb⟩
  exact ⟨vA, vN, rfl, q1, Kd.R_N q2, hb⟩
 ·cases h
theorem spec_l01Tidied.calls (gp0 : Nat) (a0_0 a0_1 : Int) (A0_2 : Option Addr) (c0_2 : Nat) (l0_2 : List Bool) (A0_3 : Option Addr) (c0_3 : Nat) (l0_3 : List (List Int)) (r1 r2 : Int) (r3 : List Bool) (r4 : List (List Int)) (w : World) (hb0 : w.heap[gp0]? = some (.cells #[.int .i64 a0_0, .int .i64 a0_1, .slice A0_2 l0_2.length c0_2, .slice A0_3 l0_3.length c0_3] 29 (0, 0)))
  (hr0_2 : Kd.C Kd.bool w A0_2 l0_2.length l0_2) (hc0_2 : l0_2.length ≤ c0_2) (hr0_3 : Kd.C (Kd.slice 2 (Kd.int .i64)) w A0_3 l0_3.length l0_3) (hc0_3 : l0_3.length ≤ c0_3) (h : spec_l01Tidied.f a0_0 a0_1 l0_2 l0_3 = some (r1, r2, r3, r4)) :
  Calls Tryd.prog 48 #[.pointer (some ⟨gp0, 0, none⟩)] w fun e w' => ∃ v2_ v3_ : Value, e = .returned (.agg #[.int .i64 r1, .int .i64 r2, v2_, v3_]) ∧ Kd.R Kd.bool 4 w' w.heap.size (fun _ => True) v2_ r3 ∧ Kd.S (Kd.slice 2 (Kd.int .i64)) 86 w' w.heap.size (fun _ => True) v3_ r4 ∧ Below w.heap.size w w' := by
 unfold spec_l01Tidied.f tidF at h
 split at h
 ·rename_i hok
  have hk := okM_ok hok
  have hm := hk.made
  obtain ⟨rfl, rfl, rfl, rfl⟩ : a0_0 = r1 ∧ 0 = r2 ∧ (tidM a0_0 a0_1 l0_2 l0_3).1 = r3 ∧ (tidM a0_0 a0_1 l0_2 l0_3).2.map ints = r4 := by simpa using h
  have e0 := hk.t0
  have e1 := hk.s0
  have e3 := hk.eq
  obtain ⟨t, ht⟩ : ∃ t, a0_0.toNat = t := ⟨_, rfl⟩
  obtain ⟨s, hs⟩ : ∃ s, a0_1.toNat = s := ⟨_, rfl⟩
  obtain ⟨rows, hr⟩ : ∃ rows, l0_3.map nats = rows := ⟨_, rfl⟩
  unfold tidM
  rw [ht, hs, hr] at hk hm ⊢
  rw [ht] at e0
  rw [hs] at e1
  rw [hr] at e3
  have hwd := wd_le _ hk.t2
  have hz := two_pow hk.t2
  have hP : w.heap[gp0]? = some (.cells #[.int .i64 (t : Int), .int .i64 (s : Int), .slice A0_2 l0_2.length c0_2, .slice A0_3 rows.length c0_3] 29 (0, 0)) := by
   rw [hb0, e0, e1, e3, List.length_map]
  have hN : Kd.C (Kd.slice 2 (Kd.int .i64)) w A0_3 rows.length (rows.map ints) := by
   rw [e3, List.length_map] at hr0_3
   exact hr0_3
  have hcall := Tw.tidied (t : Int) (s : Int) l0_2 (rows.map ints) (wdOf t) (wd_pos _ hk.t2 hk.t1) (by omega) w gp0 A0_2 c0_2 A0_3 c0_3 (by rw [List.length_map]; exact hP)
   (fun accs rowsY => ∃ li rw_, Rgt (wdOf t) rows.length (2 ^ t) rows (padT t) s li rw_ ∧ accs = accsX l0_2 (2 ^ t) li ∧ rowsY = rowsX (wdOf t) li.length rw_ ∧ li.length ≤ 800000) ?_ ?_ (tidL (wdOf t) rows l0_2 s (padT t)).1 (tidL (wdOf t) rows l0_2 s (padT t)).2 ?_
  ·rw [e0]
   exact hcall
  ·intro W hbW
   refine (Rg.right t (by have := hk.t2; omega) (2 ^ t) rfl s l0_2 rows (wdOf t) (wd_pos _ hk.t2 hk.t1) (by omega) hk.cl hk.n hk.s1 (enC (padT t)) (fun e c e' _ hc h => ?_)
    (fun W => (spec_l01Wide.calls 10 _ _ W (fin_wide _ hk.t2).2).mono (fun e W' hh => ⟨hh.1, hh.2.below⟩))
    (fun W e c he hc => (spec_l01Ended.calls 60 _ _ _ _ W (fin_ended t hk.t2 e he c hc)).mono (fun e W' hh => ⟨hh.1, hh.2.below⟩)) W gp0 A0_2 c0_2 A0_3 c0_3 (blk_below hP hbW) (Kd.C_below hr0_2 hbW) (Kd.C_below hN hbW)).mono ?_
   ·unfold enC at h
    split at h
    ·cases h
     exact hk.pad c hc
    ·cases h
   ·rintro e w1 ⟨vA, vN, li, rw_, rfl, q1, q2, h1, h2, h3, h4, h5, h6, hb⟩
    have hle : rows.length * 2 ^ t ≤ 100000 * 8 := Nat.mul_le_mul hk.n hz.2
    exact ⟨_, _, ⟨li, rw_, ⟨h1, h2, h3, h4⟩, rfl, rfl, by omega⟩, vA, vN, rfl, q1, by rw [rowsX_ints h2]; exact q2, hb⟩
  ·rintro accs rowsY ⟨li, rw_, hR, rfl, rfl, hle⟩ W gx A2 c2 A3 c3 A1 c1 g hbX hA2 hc2 hA3 hc3 hA1 hc1 hgl
   have hc := rgt_closed (accs := l0_2) hR
   obtain ⟨k, hf⟩ := (finer_ev hc hgl (by omega) (by rw [rowsX_len hR]; omega) (t : Int) 0 (accsX l0_2 (2 ^ t) li)).rounds
   have hl3 : (rowsX (wdOf t) li.length rw_).length = ((rowsX (wdOf t) li.length rw_).map ints).length := by rw [List.length_map]
   have hl1 : g.length = (ints g).length := by rw [ints_length]
   rw [hl3] at hbX hA3 hc3
   rw [hl1] at hA1 hc1 ⊢
   exact spec_l01Finer.calls k gx (t : Int) 0 A2 c2 _ A3 c3 _ A1 c1 _ _ _ W hbX hA2 hc2 hA3 hc3 hA1 hc1 hf
  ·rintro accs rowsY ⟨li, rw_, hR, rfl, rfl, hle⟩
   exact ⟨rgt_closed hR, by rw [rowsX_len hR]; omega, by rw [rowsX_len hR]; omega, made_spec hm hR (fun c hc => hk.pad c hc) hz.1⟩
 ·cases h
end Go.Proofs.YtbamnonamdpooaaDoor.Tid
namespace Go.Proofs.YtbamnonamdpooaaDoor.Ti
set_option linter.unusedVariables false
set_option linter.unusedSimpArgs false
open Go.RowKit Go.Proofs.YtbamnonamdpooaaDoorW.PrintWords Go.Proofs.YtbamnonamdpooaaDoorW.PrintLast Go.Proofs.YtbamnonamdpooaaDoorW.PrintMore Tdy Td Mg Rg
section
variable {wd : Nat} {rows : List (List Nat)} {accs : List Bool} {start : Nat} {pad : Nat → Nat} {bs : List Bool} {rws : List (List Nat)}
/-- What is made is a right machine of the same language. -/
theorem made_good (hm : Made wd rows accs start pad bs rws) : Closed wd rws bs ∧ 0 < rws.length ∧ rws.length ≤ 8 * rows.length + 1 ∧ Same wd (mach rws bs) (right (mach rows accs) (okC pad) pad) 0 (some (start, 0)) := by
 obtain ⟨lp, rp, g, l, h1, h2, h3, rfl, c1, hrp, s1, k1, o1, hle⟩ := hm.is
 unfold byClass at h3
 obtain ⟨hd, m, hm2⟩ := bfs_done _ 0 [g.getD 0 0] [] l rws h3 (Nat.zero_le _) rfl (List.pairwise_singleton _ _) (fun r hr => by cases hr) (fun i hi => by cases hi)
 have hl0 : 0 < l.length := by rw [hm2]; simp
 have hall : ∀ a ∈ l, ∃ x, x < rp.length ∧ a = g.getD x 0 := bfs_all (Q := fun a => ∃ x, x < rp.length ∧ a = g.getD x 0) (by
  rintro a ⟨x, hx, rfl⟩ c hc
  exact ⟨_, c1.step (o1.lt x hx) (List.mem_range.1 hc), rfl⟩) _ 0 _ _ l rws h3 (fun a ha => by rw [List.mem_singleton.1 ha]; exact ⟨0, hrp, rfl⟩)
 have hlen : l.length ≤ rp.length := by
  have hnd : l.Nodup := hd.apart
  have := nodup_le (m := (List.range rp.length).map (fun x => g.getD x 0)) hnd (fun a ha => by
   obtain ⟨x, hx, rfl⟩ := hall a ha
   exact List.mem_map.2 ⟨x, List.mem_range.2 hx, rfl⟩)
  simpa using this
 have hrl : rp.length = lp.length := by have := c1.len; simpa using this
 refine ⟨done_closed _ hd, by rw [hd.len]; exact hl0, by rw [hd.len]; omega, ?_⟩
 have hds := done_same (A := ⟨fun a c => g.getD ((rp.getD (oneOf g a) []).getD c 0) 0, fun a => (lp.map (accP accs)).getD (oneOf g a) false⟩) hd hl0
 have e0 : l[0] = g.getD 0 0 := by
  have h : l[0]? = some (g.getD 0 0) := by rw [hm2]; rfl
  rw [List.getElem?_eq_getElem hl0] at h
  exact Option.some.inj h
 rw [e0] at hds
 refine (hds.trans ?_).trans s1
 refine Same.of (R := fun a x => ∃ y, y < rp.length ∧ x < rp.length ∧ a = g.getD y 0 ∧ Same wd (mach rp (lp.map (accP accs))) (mach rp (lp.map (accP accs))) y x) ?_ ?_ ⟨0, hrp, hrp, rfl, Same.refl _ _ _⟩
 ·rintro a x ⟨y, hy, hx, rfl, hs⟩
  exact (((k1.iff_ _ _ (o1.lt y hy) hy).1 (o1.eq y hy)).trans hs).acc
 ·rintro a x ⟨y, hy, hx, rfl, hs⟩ c hc
  have hsx := ((k1.iff_ _ _ (o1.lt y hy) hy).1 (o1.eq y hy)).trans hs
  exact ⟨_, c1.step (o1.lt y hy) hc, c1.step hx hc, rfl, hsx.step hc⟩
end
end Go.Proofs.YtbamnonamdpooaaDoor.Ti
