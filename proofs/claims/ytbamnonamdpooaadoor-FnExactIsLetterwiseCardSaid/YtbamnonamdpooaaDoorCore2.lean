/- Parts of the proof, put together by a program of the session. -/
import Derived.Test.YtbamnonamdpooaaDoorCore1
import Derived.Test.YtbamnonamdpooaaDoorCWords
import Derived.Test.YtbamnonamdpooaaDoorCLast
import Derived.Lib.SlicesS
import Derived.Test.YtbamnonamdpooaaDoorProg
import Derived.Below
import Derived.Deep.Draws
import Derived.Deep.AppendLies
import Derived.Maps.AppendAt
import Derived.OwnWalk
import Derived.Laws.BytesArg
import Derived.Laws.MakeOwn
import Derived.Laws.OwnMore
import Derived.Deep.OwnRows
import Derived.Tactics
import Derived.Lib.ConvBytes
import Derived.Laws.Slices
import Derived.WalkKit
import Derived.KernelRfl
import Derived.RowKit3
import Derived.Deep.LoopGhost
import Derived.Deep.QuietTactic
import Derived.BigQuiet
import Derived.WideLaws
import Derived.Deep.DeepCutAuto
import Derived.Deep.CutBlock
import Derived.Deep.RegionHeld3
import Derived.Laws.Rows
import Derived.Lib.AppendStr
import Derived.ArgAppend
import Derived.Laws.IdiomCopy
import Derived.OrdersHeld
import Derived.Laws.BitsLemmas
import Derived.RowKit
import Derived.ChangeKeysEq
import Derived.Test.YtbamnonamdpooaaDoorCTab
import Derived.Test.YtbamnonamdpooaaDoorCFour
import Derived.Test.YtbamnonamdpooaaDoorCQPut
import Derived.Test.YtbamnonamdpooaaDoorCApart
import Derived.Test.YtbamnonamdpooaaDoorCArr
import Derived.Test.YtbamnonamdpooaaDoorCZeros
import Derived.Test.YtbamnonamdpooaaDoorCFoot
import Derived.Test.YtbamnonamdpooaaDoorCKept
import Derived.Test.YtbamnonamdpooaaDoorCShare
import Derived.Test.YtbamnonamdpooaaDoorCN
import Derived.Test.YtbamnonamdpooaaDoorCFootNe
import Derived.Test.YtbamnonamdpooaaDoorCAt
import Derived.Test.YtbamnonamdpooaaDoorCEqStruct
import Derived.Test.YtbamnonamdpooaaDoorCRepsOne
import Derived.Test.YtbamnonamdpooaaDoorCInv
import Derived.Test.YtbamnonamdpooaaDoorCInvWords
import Derived.Test.YtbamnonamdpooaaDoorCGuard
import Derived.Test.YtbamnonamdpooaaDoorCNEv
import Derived.Test.YtbamnonamdpooaaDoorCMore
namespace Go.Proofs.YtbamnonamdpooaaDoor.Ti
set_option linter.unusedVariables false
set_option linter.unusedSimpArgs false
open Go.RowKit Go.Proofs.YtbamnonamdpooaaDoor.Tdy Go.Proofs.YtbamnonamdpooaaDoor.Td Go.Proofs.YtbamnonamdpooaaDoor.Mg Go.Proofs.YtbamnonamdpooaaDoor.Rg
abbrev Pl := GwP.Pl
theorem classes_onto {rows : List (List Nat)} : ∀ (f : Nat) (g : List Nat) (m : Nat) (g' : List Nat), classes rows f g m = some g' → g'.length = rows.length ∧ ∃ L, Onto rows.length (fun x => g'.getD x 0) L
 | 0, _, _, _, he => by simp [classes] at he
 | f + 1, g, m, g', he => by
  have hn := number_spec (keys rows g) [] List.Pairwise.nil
  have hl : (keys rows g).length = rows.length := by simp [keys]
  have ho' := hn.onto
  rw [hl] at ho'
  unfold classes at he
  split at he
  ·obtain rfl := Option.some.inj he
   exact ⟨by rw [hn.len, hl], _, ho'⟩
  ·exact classes_onto f _ _ g' he
theorem ones_len (g : List Nat) : ∀ n, (ones g n).length = g.length
 | 0 => by simp [ones]
 | n + 1 => by
  have e : ones g (n + 1) = (ones g n).set (g.getD n 0) n := by simp [ones, List.range_succ]
  rw [e, List.length_set, ones_len g n]
theorem ones_at (g : List Nat) (hlt : ∀ x, x < g.length → g.getD x 0 < g.length) : ∀ n, n ≤ g.length → ∀ x, x < n → (ones g n).getD (g.getD x 0) 0 < n ∧ g.getD ((ones g n).getD (g.getD x 0) 0) 0 = g.getD x 0
 | 0, _, x, hx => by omega
 | n + 1, hn, x, hx => by
  have e : ones g (n + 1) = (ones g n).set (g.getD n 0) n := by simp [ones, List.range_succ]
  have hgn := hlt n (by omega)
  rw [e]
  by_cases h : g.getD n 0 = g.getD x 0
  ·have e2 : ((ones g n).set (g.getD n 0) n).getD (g.getD x 0) 0 = n := by
    rw [← h, List.getD_eq_getElem?_getD, List.getElem?_set_self (by rw [ones_len]; exact hgn)]
    rfl
   rw [e2]
   exact ⟨by omega, h⟩
  ·have hx' : x < n := by
    rcases Nat.lt_or_ge x n with h1 | h1
    ·exact h1
    ·have : x = n := by omega
     exact absurd (by rw [this]) h
   have e2 : ((ones g n).set (g.getD n 0) n).getD (g.getD x 0) 0 = (ones g n).getD (g.getD x 0) 0 := by
    rw [List.getD_eq_getElem?_getD, List.getElem?_set_ne h, ← List.getD_eq_getElem?_getD]
   rw [e2]
   have := ones_at g hlt n (by omega) x hx'
   exact ⟨by omega, this.2⟩
theorem isOne {rows : List (List Nat)} {g : List Nat} (hl : g.length = rows.length) {L : Nat} (ho : Onto rows.length (fun x => g.getD x 0) L) : IsOne rows g (oneOf g) := by
 have hlt : ∀ x, x < g.length → g.getD x 0 < g.length := fun x hx => by
  have h1 := ho.lt x (by omega)
  have h2 := ho.le_n
  have h3 : g.getD x 0 < L := h1
  omega
 unfold oneOf
 exact ⟨fun x hx => by rw [← hl] at hx ⊢; exact (ones_at g hlt g.length (Nat.le_refl _) x hx).1, fun x hx => by rw [← hl] at hx; exact (ones_at g hlt g.length (Nat.le_refl _) x hx).2⟩
/-- No tape that has ended goes on. -/
def okC (pad : Nat → Nat) (e c : Nat) : Bool := decide (bits .andNot .i64 (e : Int) (pad c : Int) = 0)
def enC (pad : Nat → Nat) (e c : Nat) : Option Nat := if okC pad e c then some (pad c) else none
def plA (rows : List (List Nat)) (accs : List Bool) (pad : Nat → Nat) : Aut Pl := ⟨nxtP rows pad, accP accs⟩
theorem pl_same (wd : Nat) (rows : List (List Nat)) (accs : List Bool) (pad : Nat → Nat) (start : Nat) : Same wd (plA rows accs pad) (right (mach rows accs) (okC pad) pad) ((start : Int), (0 : Int)) (some (start, 0)) := by
 refine Same.of (R := fun (p : Pl) (q : Option (Nat × Nat)) => (p = (0, -1) ∧ q = none) ∨ ∃ s e : Nat, p = ((s : Int), (e : Int)) ∧ q = some (s, e)) ?_ ?_ (.inr ⟨start, 0, rfl, rfl⟩)
 ·rintro p q (⟨rfl, rfl⟩ | ⟨s, e, rfl, rfl⟩)
  ·simp [plA, accP, right]
  ·have e0 : ¬ ((e : Int) < 0) := by omega
   simp only [plA, accP, right, mach, e0, if_false, Int.toNat_natCast]
 ·rintro p q (⟨rfl, rfl⟩ | ⟨s, e, rfl, rfl⟩) c hc
  ·refine .inl ⟨?_, rfl⟩
   simp [plA, nxtP]
  ·by_cases hz : bits .andNot .i64 (e : Int) (pad c : Int) = 0
   ·have e0 : ¬ ((e : Int) < 0 ∨ bits .andNot .i64 (e : Int) (pad c : Int) ≠ 0) := by
     rintro (h | h)
     ·omega
     ·exact h hz
    refine .inr ⟨(rows.getD s []).getD c 0, pad c, ?_, ?_⟩
    ·show nxtP rows pad _ c = _
     unfold nxtP
     rw [if_neg e0]
     simp
    ·show (if okC pad e c then some ((mach rows accs).step s c, pad c) else none) = _
     unfold okC
     rw [if_pos (decide_eq_true hz)]
     rfl
   ·refine .inl ⟨?_, ?_⟩
    ·show nxtP rows pad _ c = _
     unfold nxtP
     rw [if_pos (.inr hz)]
    ·show (if okC pad e c then some ((mach rows accs).step s c, pad c) else none) = _
     unfold okC
     rw [if_neg (by simpa using hz)]
/-! ### the reference's machine -/
def rowsX (wd L : Nat) (rws : List (List Int)) : List (List Nat) := rws.map (fun r => r.map (fun e => (fixE L e).toNat)) ++ [List.replicate wd L]
def accsX (accs : List Bool) (size : Nat) (li : List Nat) : List Bool := li.map (fun x => accs.getD (x / size) false) ++ [false]
theorem fixE_nat (L : Nat) (e : Int) : (((fixE L e).toNat : Nat) : Int) = fixE L e := by
 unfold fixE
 split <;> omega
theorem rowsX_ints {wd L : Nat} {rws : List (List Int)} (hl : rws.length = L) : (rowsX wd L rws).map ints = fixTo L L rws ++ [List.replicate wd (L : Int)] := by
 unfold rowsX fixTo
 rw [List.take_of_length_le (by omega), List.drop_of_length_le (by omega), List.append_nil, List.map_append, List.map_map]
 congr 1
 ·apply List.map_congr_left
  intro r _
  simp only [Function.comp_def, ints, GwI.ints, List.map_map]
  apply List.map_congr_left
  intro e _
  exact fixE_nat L e
 ·simp [ints, GwI.ints]
structure Rgt (wd n size : Nat) (rows : List (List Nat)) (pad : Nat → Nat) (start : Nat) (li : List Nat) (rws : List (List Int)) : Prop where
 li0 : li[0]? = some (start * size)
 len : rws.length = li.length
 wide : ∀ r ∈ rws, r.length = wd
 ok : ∀ (k x : Nat) (r : List Int), li[k]? = some x → rws[k]? = some r → RowOk (fun x c => (enC pad (x % size) c).map (fun e => ((rows.getD (x / size) []).getD c 0) * size + e)) li x r
section
variable {wd n size start : Nat} {rows : List (List Nat)} {accs : List Bool} {pad : Nat → Nat} {li : List Nat} {rws : List (List Int)}
theorem rowX_at (h : Rgt wd n size rows pad start li rws) {i x : Nat} (hi : li[i]? = some x) {c : Nat} (hc : c < wd) :
  (enC pad (x % size) c = none ∧ ((rowsX wd li.length rws).getD i []).getD c 0 = li.length) ∨ ∃ e j, enC pad (x % size) c = some e ∧ ((rowsX wd li.length rws).getD i []).getD c 0 = j ∧ li[j]? = some (((rows.getD (x / size) []).getD c 0) * size + e) := by
 obtain ⟨hil, _⟩ := List.getElem?_eq_some_iff.1 hi
 have hir : i < rws.length := by rw [h.len]; exact hil
 have hr : rws[i]? = some rws[i] := List.getElem?_eq_getElem hir
 have hw := h.wide _ (List.getElem_mem hir)
 have e1 : (rowsX wd li.length rws).getD i [] = rws[i].map (fun e => (fixE li.length e).toNat) := by
  unfold rowsX
  rw [List.getD_eq_getElem?_getD, List.getElem?_append_left (by rw [List.length_map]; exact hir), List.getElem?_map, hr]
  rfl
 have e2 : ∀ v, rws[i][c]? = some v → ((rowsX wd li.length rws).getD i []).getD c 0 = (fixE li.length v).toNat := fun v hv => by
  rw [e1, List.getD_eq_getElem?_getD, List.getElem?_map, hv]
  rfl
 rcases h.ok i x _ hi hr c (by rw [hw]; exact hc) with ⟨h1, h2⟩ | ⟨t, j, h1, h2, h3⟩ <;> simp only at h1
 ·refine .inl ⟨?_, ?_⟩
  ·cases he : enC pad (x % size) c with
   | none => rfl
   | some e => rw [he] at h1; cases h1
  ·rw [e2 _ h2]
   simp [fixE]
 ·cases he : enC pad (x % size) c with
  | none => rw [he] at h1; cases h1
  | some e =>
   rw [he] at h1
   simp only [Option.map_some, Option.some.injEq] at h1
   refine .inr ⟨e, j, rfl, ?_, by rw [h1]; exact h3⟩
   rw [e2 _ h2]
   have : ¬ ((j : Int) < 0) := by omega
   simp [fixE, this]
theorem dead_at (h : Rgt wd n size rows pad start li rws) {c : Nat} (hc : c < wd) : ((rowsX wd li.length rws).getD li.length []).getD c 0 = li.length := by
 have e : (rowsX wd li.length rws).getD li.length [] = List.replicate wd li.length := by
  unfold rowsX
  rw [List.getD_eq_getElem?_getD, List.getElem?_append_right (by rw [List.length_map, h.len]; exact Nat.le_refl _), List.length_map, h.len, Nat.sub_self]
  rfl
 rw [e]
 simp [List.getD_eq_getElem?_getD, hc]
theorem rowsX_len (h : Rgt wd n size rows pad start li rws) : (rowsX wd li.length rws).length = li.length + 1 := by simp [rowsX, h.len]
theorem rgt_closed (h : Rgt wd n size rows pad start li rws) : Closed wd (rowsX wd li.length rws) (accsX accs size li) := by
 have hw : ∀ r ∈ rowsX wd li.length rws, r.length = wd := by
  intro r hr
  rcases List.mem_append.1 hr with hr | hr
  ·obtain ⟨r', hr', rfl⟩ := List.mem_map.1 hr
   rw [List.length_map, h.wide r' hr']
  ·rw [List.mem_singleton.1 hr]; simp
 refine ⟨by rw [rowsX_len h]; simp [accsX], hw, fun r hr q hq => ?_⟩
 rw [rowsX_len h]
 obtain ⟨i, hi, rfl⟩ := List.getElem_of_mem hr
 obtain ⟨c, hc, rfl⟩ := List.getElem_of_mem hq
 have hcw : c < wd := by rw [← hw _ (List.getElem_mem hi)]; exact hc
 have e : ((rowsX wd li.length rws).getD i []).getD c 0 = (rowsX wd li.length rws)[i][c] := by simp [List.getD_eq_getElem?_getD, hi, hc]
 rw [← e]
 rw [rowsX_len h] at hi
 rcases Nat.lt_or_ge i li.length with hil | hil
 ·rcases rowX_at h (List.getElem?_eq_getElem hil) hcw with ⟨_, h2⟩ | ⟨e, j, _, h2, h3⟩
  ·rw [h2]; omega
  ·rw [h2]
   have := (List.getElem?_eq_some_iff.1 h3).1
   omega
 ·have : i = li.length := by omega
  rw [this, dead_at h hcw]
  omega
theorem div_mod {a e size : Nat} (h : e < size) : (a * size + e) / size = a ∧ (a * size + e) % size = e := by
 refine ⟨?_, ?_⟩
 ·rw [Nat.mul_comm, Nat.mul_add_div (by omega), Nat.div_eq_of_lt h, Nat.add_zero]
 ·rw [Nat.mul_comm, Nat.mul_add_mod, Nat.mod_eq_of_lt h]
theorem rgt_same (h : Rgt wd n size rows pad start li rws) (hp : ∀ c, c < wd → pad c < size) (hs0 : 0 < size) : Same wd (mach (rowsX wd li.length rws) (accsX accs size li)) (right (mach rows accs) (okC pad) pad) 0 (some (start, 0)) := by
 have hd0 := div_mod (a := start) hs0
 rw [Nat.add_zero] at hd0
 refine Same.of (R := fun (i : Nat) (q : Option (Nat × Nat)) => (i = li.length ∧ q = none) ∨ ∃ x, li[i]? = some x ∧ q = some (x / size, x % size)) ?_ ?_ (.inr ⟨_, h.li0, by rw [hd0.1, hd0.2]⟩)
 ·rintro i q (⟨rfl, rfl⟩ | ⟨x, hx, rfl⟩)
  ·simp [mach, accsX, right]
  ·obtain ⟨hil, e⟩ := List.getElem?_eq_some_iff.1 hx
   show (accsX accs size li).getD i false = accs.getD (x / size) false
   unfold accsX
   rw [List.getD_eq_getElem?_getD, List.getElem?_append_left (by rw [List.length_map]; exact hil), List.getElem?_map, hx]
   rfl
 ·rintro i q (⟨rfl, rfl⟩ | ⟨x, hx, rfl⟩) c hc
  ·exact .inl ⟨dead_at h hc, rfl⟩
  ·rcases rowX_at h hx hc with ⟨h1, h2⟩ | ⟨e, j, h1, h2, h3⟩
   ·refine .inl ⟨h2, ?_⟩
    show (if okC pad (x % size) c then some ((mach rows accs).step (x / size) c, pad c) else none) = none
    unfold enC at h1
    split at h1
    ·cases h1
    ·rename_i h4
     rw [if_neg h4]
   ·refine .inr ⟨_, by show li[((rowsX wd li.length rws).getD i []).getD c 0]? = _; rw [h2]; exact h3, ?_⟩
    show (if okC pad (x % size) c then some ((mach rows accs).step (x / size) c, pad c) else none) = _
    unfold enC at h1
    split at h1
    ·rename_i h4
     obtain rfl := Option.some.inj h1
     have hdm := div_mod (a := (rows.getD (x / size) []).getD c 0) (hp c hc)
     rw [if_pos h4, hdm.1, hdm.2]
     rfl
    ·cases h1
end
/-! ### the tidy machine -/
def tidL (wd : Nat) (rows : List (List Nat)) (accs : List Bool) (start : Nat) (pad : Nat → Nat) : List Bool × List (List Nat) :=
 match bfs id (nxtP rows pad) (List.range wd) 0 (8 * rows.length + 2) 0 [((start : Int), (0 : Int))] [] with
 | some (some (lp, rp)) =>
  match classes rp (rp.length + 1) (first (lp.map (accP accs))) 0 with
  | some g =>
   match byClass wd rp g (oneOf g) 0 (rp.length + 2) with
   | some (some (l, rws)) => (l.map (fun a => (lp.map (accP accs)).getD (oneOf g a) false), rws)
   | _ => ([], [])
  | none => ([], [])
 | _ => ([], [])
structure Made (wd : Nat) (rows : List (List Nat)) (accs : List Bool) (start : Nat) (pad : Nat → Nat) (bs : List Bool) (rws : List (List Nat)) : Prop where
 is : ∃ lp rp g l, bfs id (nxtP rows pad) (List.range wd) 0 (8 * rows.length + 2) 0 [((start : Int), (0 : Int))] [] = some (some (lp, rp)) ∧ classes rp (rp.length + 1) (first (lp.map (accP accs))) 0 = some g ∧ byClass wd rp g (oneOf g) 0 (rp.length + 2) = some (some (l, rws)) ∧
  bs = l.map (fun a => (lp.map (accP accs)).getD (oneOf g a) false) ∧ Closed wd rp (lp.map (accP accs)) ∧ 0 < rp.length ∧ Same wd (mach rp (lp.map (accP accs))) (right (mach rows accs) (okC pad) pad) 0 (some (start, 0)) ∧ IsClasses wd rp (lp.map (accP accs)) g ∧ IsOne rp g (oneOf g) ∧ lp.length ≤ 8 * rows.length + 1
theorem made {wd : Nat} {rows : List (List Nat)} {accs : List Bool} {start : Nat} {pad : Nat → Nat} (hcl : Closed wd rows accs) (hst : start < rows.length) (hp : ∀ c, c < wd → pad c < 8) : Made wd rows accs start pad (tidL wd rows accs start pad).1 (tidL wd rows accs start pad).2 := by
 have hs0 : Met8 rows.length ((start : Int), (0 : Int)) := .inr ⟨start, 0, hst, by omega, rfl⟩
 have hnx : ∀ p c, Met8 rows.length p → c < wd → Met8 rows.length (nxtP rows pad p c) := fun p c h1 h2 => met8_next hcl hp h1 h2
 obtain ⟨r1, hr1⟩ := bfs_end (key := (id : Pl → Pl)) (nxt := nxtP rows pad) (cols := List.range wd) (limit := 0) (Q := Met8 rows.length) (U := ((0, -1) : Pl) :: (List.range (8 * rows.length)).map (fun x => (((x / 8 : Nat) : Int), ((x % 8 : Nat) : Int)))) (by
   rintro p (rfl | ⟨s, e, h1, h2, rfl⟩)
   ·exact List.mem_cons_self ..
   ·refine List.mem_cons_of_mem _ (List.mem_map.2 ⟨8 * s + e, List.mem_range.2 (by omega), ?_⟩)
    have h3 : (8 * s + e) / 8 = s := by omega
    have h4 : (8 * s + e) % 8 = e := by omega
    simp only [h3, h4, id])
  (fun p hq c hc => hnx p c hq (List.mem_range.1 hc)) (8 * rows.length + 2) 0 [((start : Int), (0 : Int))] [] (by simp) (Nat.zero_le _) (List.pairwise_singleton _ _) (fun x hx => by rw [List.mem_singleton.1 hx]; exact hs0)
 cases r1 with
 | none => exact absurd hr1 (bfs_zero _ _ _ _)
 | some q =>
 obtain ⟨lp, rp⟩ := q
 obtain ⟨hd, m, hm⟩ := bfs_done _ 0 [((start : Int), (0 : Int))] [] lp rp hr1 (Nat.zero_le _) rfl (List.pairwise_singleton _ _) (fun r hr => by cases hr) (fun i hi => by cases hi)
 have hcl2 : Closed wd rp (lp.map (accP accs)) := done_closed _ hd
 have hlp : 0 < lp.length := by rw [hm]; simp
 have hrp : 0 < rp.length := by rw [hd.len]; exact hlp
 have hlp0 : lp[0] = ((start : Int), (0 : Int)) := by
  have h : lp[0]? = some ((start : Int), (0 : Int)) := by rw [hm]; rfl
  rw [List.getElem?_eq_getElem hlp] at h
  exact Option.some.inj h
 have hsame : Same wd (mach rp (lp.map (accP accs))) (right (mach rows accs) (okC pad) pad) 0 (some (start, 0)) := by
  have h := done_same (A := plA rows accs pad) hd hlp
  rw [hlp0] at h
  exact h.trans (pl_same wd rows accs pad start)
 obtain ⟨g, hg⟩ := classes_end (rows := rp) (rp.length + 1) (first (lp.map (accP accs))) 0 (by omega) (.inl rfl)
 obtain ⟨hgl, L, hon⟩ := classes_onto _ _ _ _ hg
 have hic := classes_is hcl2 hrp hg
 have hone := isOne hgl hon
 obtain ⟨r3, hr3⟩ := bfs_end (key := (id : Nat → Nat)) (nxt := fun a c => g.getD ((rp.getD (oneOf g a) []).getD c 0) 0) (cols := List.range wd) (limit := 0) (Q := fun a => ∃ x, x < rp.length ∧ a = g.getD x 0) (U := List.range L) (by
   rintro a ⟨x, hx, rfl⟩
   exact List.mem_range.2 (hon.lt x hx))
  (by
   rintro a ⟨x, hx, rfl⟩ c hc
   exact ⟨_, hcl2.step (hone.lt x hx) (List.mem_range.1 hc), rfl⟩) (rp.length + 2) 0 [g.getD 0 0] [] (by have := hon.le_n; simp; omega) (Nat.zero_le _) (List.pairwise_singleton _ _) (fun x hx => by rw [List.mem_singleton.1 hx]; exact ⟨0, hrp, rfl⟩)
 cases r3 with
 | none => exact absurd hr3 (bfs_zero _ _ _ _)
 | some q =>
 obtain ⟨l, rws⟩ := q
 have hby : byClass wd rp g (oneOf g) 0 (rp.length + 2) = some (some (l, rws)) := hr3
 have he : tidL wd rows accs start pad = (l.map (fun a => (lp.map (accP accs)).getD (oneOf g a) false), rws) := by
  unfold tidL
  rw [hr1]
  simp only [hg, hby]
 rw [he]
 exact ⟨lp, rp, g, l, hr1, hg, hby, rfl, hcl2, hrp, hsame, hic, hone, places_len hr1 hs0 hnx⟩
theorem made_tidied {wd : Nat} {rows : List (List Nat)} {accs : List Bool} {start : Nat} {pad : Nat → Nat} {bs : List Bool} {rws : List (List Nat)} (h : Made wd rows accs start pad bs rws) : Tidied wd rows accs start pad bs rws := by
 obtain ⟨lp, rp, g, l, h1, h2, h3, h4, _⟩ := h.is
 exact ⟨_, lp, rp, _, g, _, l, h1, h2, h3, h4⟩
/-- The reference's way leads to the same machine. -/
theorem made_spec {wd n size : Nat} {rows : List (List Nat)} {accs : List Bool} {start : Nat} {pad : Nat → Nat} {bs : List Bool} {rws : List (List Nat)} (hm : Made wd rows accs start pad bs rws) {li : List Nat} {rw_ : List (List Int)} (h : Rgt wd n size rows pad start li rw_) (hp : ∀ c, c < wd → pad c < size) (hs0 : 0 < size) :
  ∃ f1 g f2 m, classes (rowsX wd li.length rw_) f1 (first (accsX accs size li)) 0 = some g ∧ byState wd (rowsX wd li.length rw_) g 0 f2 = some (some (m, rws)) ∧ m.map (fun q => (accsX accs size li).getD q false) = bs := by
 obtain ⟨lp, rp, g1, l, h1, h2, h3, rfl, c1, hrp, s1, k1, o1, _⟩ := hm.is
 have c2 := rgt_closed (accs := accs) h
 have hx0 : 0 < (rowsX wd li.length rw_).length := by rw [rowsX_len h]; omega
 obtain ⟨g2, hg2⟩ := classes_end (rows := rowsX wd li.length rw_) ((rowsX wd li.length rw_).length + 1) (first (accsX accs size li)) 0 (by omega) (.inl rfl)
 have k2 := classes_is c2 hx0 hg2
 obtain ⟨m, hm1, hm2⟩ := canon_eq c1 c2 k1 k2 o1 hrp hx0 (s1.trans (rgt_same h hp hs0).symm) h3
 exact ⟨_, g2, _, m, hg2, hm1, hm2.symm⟩
end Go.Proofs.YtbamnonamdpooaaDoor.Ti
namespace Go.Proofs.YtbamnonamdpooaaDoor.Pure
set_option linter.unusedVariables false
set_option linter.unusedSimpArgs false
open Go.RowKit Go.Proofs.YtbamnonamdpooaaDoorW.PrintWords
/-- A step of a loop whose body is told at 'k + 1'. -/
theorem ev_step {α : Type} {g f : Nat → Option α} {r : α} (h : ∀ k, g (k + 1) = f k) (k : Ev f r) : Ev g r := Ev.step h k
theorem ev_const {α : Type} {g : Nat → Option α} {r : α} (h : ∀ k, g (k + 1) = some r) : Ev g r := Ev.step h (Ev.now r)
/-- A step whose body calls. -/
theorem ev_call {α β : Type} {g : Nat → Option α} {c : Nat → Option β} {f : Nat → β → Option α} {b : β} {r : α} (hc : Ev c b) (h : Ev (fun k => f k b) r) (hg : ∀ k, g k = (c k).bind (f k)) : Ev g r :=
 Ev.congr hg (Ev.bind hc h)
theorem ev_some {α β : Type} {c : Option β} {g : Nat → Option α} {f : Nat → β → Option α} {b : β} {r : α} (hc : c = some b) (h : Ev (fun k => f k b) r) (hg : ∀ k, g k = c.bind (f k)) : Ev g r :=
 Ev.congr (fun k => by rw [hg k, hc]; rfl) h
theorem ev_ift {α : Type} {c : Prop} [Decidable c] {x y : Nat → Option α} {r : α} (hc : c) (h : Ev x r) : Ev (fun k => if c then x k else y k) r := Ev.congr (fun _ => if_pos hc) h
theorem ev_iff {α : Type} {c : Prop} [Decidable c] {x y : Nat → Option α} {r : α} (hc : ¬ c) (h : Ev y r) : Ev (fun k => if c then x k else y k) r := Ev.congr (fun _ => if_neg hc) h
/-- A loop over an index from 0 on. -/
theorem ev_up {σ ρ : Type} (l : Nat → Int → σ → Option ρ) (n : Nat) (s : Nat → σ) (r : ρ) (hend : Ev (fun k => l k (n : Int) (s n)) r)
  (hstep : ∀ i, i < n → Ev (fun k => l k ((i : Int) + 1) (s (i + 1))) r → Ev (fun k => l k (i : Int) (s i)) r) : Ev (fun k => l k 0 (s 0)) r := by
 have key : ∀ d i, d + i = n → Ev (fun k => l k (i : Int) (s i)) r := by
  intro d
  induction d with
  | zero => intro i hi; obtain rfl : i = n := (by omega); exact hend
  | succ d ih =>
   intro i hi
   exact hstep i (by omega) (by have := ih (i + 1) (by omega); simpa using this)
 exact key n 0 (by omega)
/-- A loop that copies an element a round. -/
theorem ev_copy {α : Type} (l : Nat → List α → Int → Option (List α)) (xs : List α) (z : α)
  (hend : ∀ ys, ys.length = xs.length → Ev (fun k => l k ys (xs.length : Int)) ys)
  (hstep : ∀ (i : Nat) (hi : i < xs.length) (ys : List α) (r : List α), ys.length = xs.length → Ev (fun k => l k (ys.set i xs[i]) ((i : Int) + 1)) r → Ev (fun k => l k ys (i : Int)) r) :
  Ev (fun k => l k (List.replicate xs.length z) 0) xs := by
 have hs : ∀ i, i < xs.length → (xs.take i ++ List.replicate (xs.length - i) z).set i (xs.getD i z) = xs.take (i + 1) ++ List.replicate (xs.length - (i + 1)) z := by
  intro i hi
  have e : xs.length - i = (xs.length - (i + 1)) + 1 := by omega
  have ht : (xs.take i).length = i := by simp; omega
  rw [e, List.replicate_succ, List.set_append_right _ _ (by omega), ht, Nat.sub_self, List.set_cons_zero]
  have eg : xs.getD i z = xs[i] := by simp [List.getD, List.getElem?_eq_getElem hi]
  rw [eg, List.take_succ_eq_append_getElem hi, List.append_assoc]
  rfl
 have := ev_up (fun k i ys => l k ys i) xs.length (fun i => xs.take i ++ List.replicate (xs.length - i) z) xs (by
   have := hend (xs.take xs.length ++ List.replicate (xs.length - xs.length) z) (by simp)
   simpa using this)
  (fun i hi h => hstep i hi _ _ (by simp; omega) (by
   have e := hs i hi
   have eg : xs.getD i z = xs[i] := by simp [List.getD, List.getElem?_eq_getElem hi]
   rw [eg] at e
   rw [e]
   exact h))
 simpa using this
/-- A loop that looks whether all indices pass. -/
theorem ev_all (l : Nat → Int → Option Bool) (n : Nat) (p : Nat → Bool) (hend : Ev (fun k => l k (n : Int)) true)
  (hyes : ∀ i, i < n → p i = true → ∀ r, Ev (fun k => l k ((i : Int) + 1)) r → Ev (fun k => l k (i : Int)) r)
  (hno : ∀ i, i < n → p i = false → Ev (fun k => l k (i : Int)) false) : Ev (fun k => l k 0) ((List.range n).all p) := by
 have key : ∀ d i, d + i = n → Ev (fun k => l k (i : Int)) ((List.range' i d).all p) := by
  intro d
  induction d with
  | zero => intro i hi; obtain rfl : i = n := (by omega); exact hend
  | succ d ih =>
   intro i hi
   rw [List.range'_succ, List.all_cons]
   cases hp : p i with
   | false => exact hno i (by omega) hp
   | true => rw [Bool.true_and]; exact hyes i (by omega) hp _ (by have := ih (i + 1) (by omega); simpa using this)
 have := key n 0 (by omega)
 rw [← List.range_eq_range'] at this
 exact this
theorem wrap_up {i : Nat} (h : i < 9223372036854775807) : wrap64 ((i : Int) + 1) = (i : Int) + 1 := by unfold wrap64; omega
theorem wrap_id {i : Int} (h0 : -9223372036854775808 ≤ i) (h : i ≤ 9223372036854775807) : wrap64 i = i := by unfold wrap64; omega
theorem rd_nat (xs : List Int) (i : Nat) (h : i < xs.length) : rd xs (i : Int) = xs[i] := by
 unfold rd; simp [List.getD, List.getElem?_eq_getElem h]
theorem rdOf_nat {α : Type} (d : α) (xs : List α) (i : Nat) (h : i < xs.length) : rdOf d xs (i : Int) = xs[i] := by
 unfold rdOf; simp [List.getD, List.getElem?_eq_getElem h]
theorem getD_nat {α : Type} (xs : List α) (d : α) (i : Nat) (h : i < xs.length) : xs.getD ((i : Int).toNat) d = xs[i] := by
 simp [List.getD, List.getElem?_eq_getElem h]
end Go.Proofs.YtbamnonamdpooaaDoor.Pure
namespace Go.Proofs.YtbamnonamdpooaaDoor.PB1
open Go.RowKit Go.Proofs.YtbamnonamdpooaaDoorW.PrintWords Go.Proofs.YtbamnonamdpooaaDoorW.PrintLast Go.Proofs.YtbamnonamdpooaaDoorW.PrintMore
attribute [local go_sem] max2_int min2_int max_two min_two max_three min_three max_four min_four   -- for this text's walks alone
set_option linter.unusedVariables false
set_option linter.unusedSimpArgs false
def errW : Option Int → Value
 | none => .nilIface
 | some c => .iface 0 (.int .i64 c)
theorem errW_none : errW none = .nilIface := rfl
theorem errW_some (c : Int) : errW (some c) = .iface 0 (.int .i64 c) := rfl
theorem info2 : (Tryd.prog.info? 2).map (fun i => (i.zero, i.size, i.bytes)) = some (some (.int .i64 0), 1, 8) := by kernel_rfl
theorem info3 : (Tryd.prog.info? 3).map (fun i => (i.zero, i.size, i.bytes)) = some (some (.int .i64 0), 1, 8) := by kernel_rfl
def rd_L1 (xs : List (List Int)) (i : Int) : (List Int) := xs.getD i.toNat ([] : List Int)
theorem at_L1 {w : World} {A : Option Addr} {n : Nat} {xs : List (List Int)} (h : Kd.C (Kd.slice 2 (Kd.int .i64)) w A n xs) (i : Int) (h0 : 0 ≤ i) (h1 : i < n) : ∃ ad A0 c0, A = some ad ∧ w.cell? (ad.add i.toNat) = some (.slice A0 (rd_L1 xs i).length c0) ∧ (rd_L1 xs i).length ≤ c0 ∧ (Kd.int .i64).C w A0 (rd_L1 xs i).length (rd_L1 xs i) := by
 obtain ⟨ad, c, e, _, hK, hc0⟩ := Kd.C_get h ([] : List Int) i h0 h1
 have hc : ∀ j u, c[j]? = some u → w.cell? (ad.add (i.toNat * 1 + j)) = some u := hc0
 obtain ⟨A0, c0, rfl, l0, g0⟩ := hK
 exact ⟨ad, A0, c0, e, by have hq := hc 0 _ rfl; rwa [Nat.mul_one, Nat.add_zero] at hq, l0, g0⟩
end Go.Proofs.YtbamnonamdpooaaDoor.PB1
namespace Go.Proofs.YtbamnonamdpooaaDoor.PB1
open Go.RowKit Go.Proofs.YtbamnonamdpooaaDoorW.PrintWords Go.Proofs.YtbamnonamdpooaaDoorW.PrintLast Go.Proofs.YtbamnonamdpooaaDoorW.PrintMore
attribute [local go_sem] max2_int min2_int max_two min_two max_three min_three max_four min_four   -- for this text's walks alone
set_option linter.unusedVariables false
set_option linter.unusedSimpArgs false
/-! ### impl_powerOf: function 163 -/
def impl_powerOf.l0 : Nat → Int → Int → Option (Int)
 | 0, _, _ => none
 | k + 1, x0, x3 => if x0 > 0 then (impl_powerOf.l0 k (wrap64 (x0 - 1)) (wrap64 (x3 * 3))) else (some x3)
def impl_powerOf.f (k : Nat) (a0 : Int) : Option (Int) := impl_powerOf.l0 k a0 1
theorem impl_powerOf.mono_l : ∀ k, (∀ y0 y1, LeO (impl_powerOf.l0 k y0 y1) (impl_powerOf.l0 (k + 1) y0 y1))
 | 0 => fun _ _ r h => by simp [impl_powerOf.l0] at h
 | k + 1 => by
  have ih0 := impl_powerOf.mono_l k
  ·intro y0 y1
   unfold impl_powerOf.l0
   repeat' first
   | (with_reducible exact ih0 _ _)
   | (with_reducible exact LeO.refl _)
   | (with_reducible exact LeO.none _)
   | (with_reducible refine LeO.ite ?_ ?_)
   | (with_reducible refine LeO.bind ?_ (fun _ => ?_))
   | exact ih0 _ _
   | exact LeO.none _
   | refine LeO.ite ?_ ?_
   | refine LeO.bind ?_ (fun _ => ?_)
theorem impl_powerOf.mono : ∀ a0 k, LeO (impl_powerOf.f k a0) (impl_powerOf.f (k + 1) a0) := by
 intro a0 k
 have ih0 := impl_powerOf.mono_l k
 unfold impl_powerOf.f
 repeat' first
   | (with_reducible exact ih0 _ _)
   | (with_reducible exact LeO.refl _)
   | (with_reducible exact LeO.none _)
   | (with_reducible refine LeO.ite ?_ ?_)
   | (with_reducible refine LeO.bind ?_ (fun _ => ?_))
   | exact ih0 _ _
   | exact LeO.none _
   | refine LeO.ite ?_ ?_
   | refine LeO.bind ?_ (fun _ => ?_)
set_option maxHeartbeats 8000000 in
set_option maxRecDepth 100000 in
theorem impl_powerOf.calls (k : Nat) (a0 : Int) (r : Int) (w : World) (h : impl_powerOf.f k a0 = some r) :
  Calls Tryd.prog 163 #[.int .i64 a0] w fun e w' => e = .returned (.int .i64 r) ∧ Drawn0 w w' := by
 have H : (impl_powerOf.l0 k a0 1) = some r := h
 clear h
 have H' := Aside0.mk H
 clear H
 go_enter Tryd.func163, Tryd.ntmps163
 go_wp2
 go_loopg [0, 3] k (fun kq v0 v3 w' => ∃ (x0_1 : Int) (x3_1 : Int), v0 = .int .i64 x0_1 ∧ v3 = .int .i64 x3_1 ∧ Aside0 (impl_powerOf.l0 kq x0_1 x3_1 = some r) ∧ Aside0 (kq ≤ k) ∧ Drawn0 w w')
 case atStart => exact ⟨(a0), (1), (by first | rfl | (simp; done) | (simp [*]; done) | (simp [wrap64]; done)), (by first | rfl | (simp; done) | (simp [*]; done) | (simp [wrap64]; done)), H', ⟨Nat.le_refl _⟩, by repeat (first | exact Drawn0.refl _ | apply Drawn0.step)⟩
 case round =>
  clear H'
  try clear c1
  obtain ⟨x0_1, x3_1, rfl, rfl, HA, HK1, ⟨m1, rfl⟩⟩ := hrel
  cases gk with
  | zero => exact absurd HA.out (by simp [impl_powerOf.l0])
  | succ k1 =>
   have H := HA.out
   clear HA
   simp only [impl_powerOf.l0] at H
   by_cases c2 : x0_1 > 0
   ·rw [if_pos c2] at H
    have c2b0 : decide (0 < x0_1) = true := decide_eq_true c2
    clear c2
    have H' := Aside0.mk H
    clear H
    go_wp2
    go_roundg k1
    case measure => have := HK1.out; omega
    case rel => exact ⟨(wrap64 (x0_1 - 1)), (wrap64 (x3_1 * 3)), (by first | rfl | (simp; done) | (simp [*]; done) | (simp [wrap64]; done)), (by first | rfl | (simp; done) | (simp [*]; done) | (simp [wrap64]; done)), H', ⟨by have := HK1.out; omega⟩, by repeat (first | exact Drawn0.refl _ | apply Drawn0.step)⟩
   ·rw [if_neg c2] at H
    have c2b0 : decide (0 < x0_1) = false := decide_eq_false c2
    clear c2
    obtain rfl := Option.some.inj H
    simp only [Option.some.injEq, Prod.mk.injEq] at H
    obtain ⟨rfl⟩ := H
    go_wp2
    go_ret
    exact ⟨by first | rfl | (simp; done) | (simp [*]; done) | (simp [wrap64]; done), by repeat (first | exact Drawn0.refl _ | apply Drawn0.step)⟩
/-! ### impl_widthOf: function 124 -/
def impl_widthOf.f (k : Nat) (a0 : Int) : Option (Int) := (impl_powerOf.f k a0).bind fun t101 => (some (wrap64 (t101 - 1)))
theorem impl_widthOf.mono : ∀ a0 k, LeO (impl_widthOf.f k a0) (impl_widthOf.f (k + 1) a0) := by
 intro a0 k
 unfold impl_widthOf.f
 repeat' first
   | (with_reducible exact impl_powerOf.mono _ _)
   | (with_reducible exact LeO.refl _)
   | (with_reducible exact LeO.none _)
   | (with_reducible refine LeO.ite ?_ ?_)
   | (with_reducible refine LeO.bind ?_ (fun _ => ?_))
   | exact impl_powerOf.mono _ _
   | exact LeO.none _
   | refine LeO.ite ?_ ?_
   | refine LeO.bind ?_ (fun _ => ?_)
set_option maxHeartbeats 8000000 in
set_option maxRecDepth 100000 in
theorem impl_widthOf.calls (k : Nat) (a0 : Int) (r : Int) (w : World) (h : impl_widthOf.f k a0 = some r) :
  Calls Tryd.prog 124 #[.int .i64 a0] w fun e w' => e = .returned (.int .i64 r) ∧ Drawn0 w w' := by
 have H : ((impl_powerOf.f k a0).bind fun t101 => (some (wrap64 (t101 - 1)))) = some r := h
 clear h
 replace H := Option.bind_eq_some_iff.mp H
 obtain ⟨t101, A20, H⟩ := H
 replace H : (some (wrap64 (t101 - 1))) = some r := H
 have A2 := Aside0.mk A20
 clear A20
 obtain rfl := Option.some.inj H
 simp only [Option.some.injEq, Prod.mk.injEq] at H
 obtain ⟨rfl⟩ := H
 go_enter Tryd.func124, Tryd.ntmps124
 go_wp2_with (first | ((with_reducible refine gate_callee (f := 163) rfl ?_); refine goesL_ (some 4) rfl rfl Tryd.func163 (by kernel_rfl) rfl #[.int .i64 a0] rfl (by (try simp only [List.map_toArray, List.map_cons, List.map_nil]); first | done | rfl | (simp only [List.length_drop, List.length_take]; rfl)) ?_; (with_reducible refine (impl_powerOf.calls k a0 t101 _ A2.out).mono ?_); rintro e w' ⟨rfl, ⟨nd, rfl⟩⟩; refine ⟨_, rfl, ?_⟩))
 go_ret
 exact ⟨by first | rfl | (simp; done) | (simp [*]; done) | (simp [wrap64]; done), by repeat (first | exact Drawn0.refl _ | apply Drawn0.step)⟩
/-! ### impl_digitsOf: function 69 -/
def impl_digitsOf.l0 : Nat → Int → Int → List Int → Option (List Int)
 | 0, _, _, _ => none
 | k + 1, x0, x1, x5 => if x0 > 0 then (if x5.length < 17592186044416 then (impl_digitsOf.l0 k (wrap64 (x0 - 1)) (wrap64 (Int.tdiv x1 3)) (x5 ++ [Int.tmod x1 3])) else (none)) else (some x5)
def impl_digitsOf.f (k : Nat) (a0 : Int) (a1 : Int) : Option (List Int) := impl_digitsOf.l0 k a0 a1 ([] : List Int)
theorem impl_digitsOf.mono_l : ∀ k, (∀ y0 y1 y2, LeO (impl_digitsOf.l0 k y0 y1 y2) (impl_digitsOf.l0 (k + 1) y0 y1 y2))
 | 0 => fun _ _ _ r h => by simp [impl_digitsOf.l0] at h
 | k + 1 => by
  have ih0 := impl_digitsOf.mono_l k
  ·intro y0 y1 y2
   unfold impl_digitsOf.l0
   repeat' first
   | (with_reducible exact ih0 _ _ _)
   | (with_reducible exact LeO.refl _)
   | (with_reducible exact LeO.none _)
   | (with_reducible refine LeO.ite ?_ ?_)
   | (with_reducible refine LeO.bind ?_ (fun _ => ?_))
   | exact ih0 _ _ _
   | exact LeO.none _
   | refine LeO.ite ?_ ?_
   | refine LeO.bind ?_ (fun _ => ?_)
theorem impl_digitsOf.mono : ∀ a0 a1 k, LeO (impl_digitsOf.f k a0 a1) (impl_digitsOf.f (k + 1) a0 a1) := by
 intro a0 a1 k
 have ih0 := impl_digitsOf.mono_l k
 unfold impl_digitsOf.f
 repeat' first
   | (with_reducible exact ih0 _ _ _)
   | (with_reducible exact LeO.refl _)
   | (with_reducible exact LeO.none _)
   | (with_reducible refine LeO.ite ?_ ?_)
   | (with_reducible refine LeO.bind ?_ (fun _ => ?_))
   | exact ih0 _ _ _
   | exact LeO.none _
   | refine LeO.ite ?_ ?_
   | refine LeO.bind ?_ (fun _ => ?_)
set_option maxHeartbeats 8000000 in
set_option maxRecDepth 100000 in
theorem impl_digitsOf.calls (k : Nat) (a0 : Int) (a1 : Int) (r : List Int) (w : World) (h : impl_digitsOf.f k a0 a1 = some r) :
  Calls Tryd.prog 69 #[.int .i64 a0, .int .i64 a1] w fun e w' => ∃ v0_ : Value, e = .returned (v0_) ∧ Kd.R (Kd.int .i64) 3 w' w.heap.size (fun _ => True) v0_ r ∧ Below w.heap.size w w' := by
 have HB := Aside0.mk (Below.refl w.heap.size w)
 have H : (impl_digitsOf.l0 k a0 a1 ([] : List Int)) = some r := h
 clear h
 have H' := Aside0.mk H
 clear H
 go_enter Tryd.func69, Tryd.ntmps69
 go_wp2
 go_loopg [0, 1, 5] k (fun kq v0 v1 v5 w' => ∃ (x0_1 : Int) (x1_1 : Int) (x5_1 : List Int), v0 = .int .i64 x0_1 ∧ v1 = .int .i64 x1_1 ∧ Aside0 (impl_digitsOf.l0 kq x0_1 x1_1 x5_1 = some r) ∧ Aside0 (kq ≤ k) ∧ Aside0 (Kd.R (Kd.int .i64) 3 w' w.heap.size (fun _ => True) v5 x5_1) ∧ Aside0 (Below w.heap.size w w'))
 case atStart => exact ⟨(a0), (a1), (([] : List Int)), (by first | rfl | (simp; done) | (simp [*]; done) | (simp [wrap64]; done)), (by first | rfl | (simp; done) | (simp [*]; done) | (simp [wrap64]; done)), H', ⟨Nat.le_refl _⟩, ⟨by first | exact Kd.R_nil _ _ _ _ _ | exact Kd.N_nil _ _ _ _ _ | exact Kd.V_nil _ _ _ _ _ | exact Kd.Q_nil _ _ _ _ _ | exact Kd.S_nil _ _ _ _ _⟩, ⟨by repeat (first | (with_reducible first | exact HB.out | apply below_alloc | apply pw_below_drewN | apply below_drew1) | exact HB.out)⟩⟩
 case round =>
  clear H'
  try clear p2
  obtain ⟨x0_1, x1_1, x5_1, rfl, rfl, HA, HK1, HO_5, HB⟩ := hrel
  cases gk with
  | zero => exact absurd HA.out (by simp [impl_digitsOf.l0])
  | succ k1 =>
   have H := HA.out
   clear HA
   simp only [impl_digitsOf.l0] at H
   by_cases c3 : x0_1 > 0
   ·rw [if_pos c3] at H
    have c3b0 : decide (0 < x0_1) = true := decide_eq_true c3
    clear c3
    by_cases c4 : x5_1.length < 17592186044416
    ·rw [if_pos c4] at H
     have LMc4 := Aside0.mk c4
     clear c4
     obtain ⟨y102, hy102⟩ : ∃ y_ : List Int, y_ = (x5_1 ++ [Int.tmod x1_1 3]) := ⟨_, rfl⟩
     replace H : (impl_digitsOf.l0 k1 (wrap64 (x0_1 - 1)) (wrap64 (Int.tdiv x1_1 3)) y102) = some r := by first | (rw [hy102]; with_reducible exact H) | (have H2_ := (Option.bind_some _ _).symm.trans H; rw [hy102]; with_reducible exact H2_) | (have H2_ := (Option.bind_some _ _).symm.trans H; with_reducible exact H2_) | with_reducible exact H | (rw [hy102]; exact H) | exact H
     have Ny102 := Aside0.mk hy102
     clear hy102
     have H' := Aside0.mk H
     clear H
     go_wp2_with (first | ((with_reducible refine gate_builtin (b := .append) (xs := #[.tmp 10, .tmp 13]) rfl ?_); at_builtin; refine Kd.R_append (Kd.int .i64) (w0 := w) w.heap.size rfl (.tmp 10) (.tmp 13) 97 3 (.int .i64 0) 8 rfl Tryd.underlying97 info3 rfl (by decide) (by omega) u5 x5_1 (Int.tmod x1_1 3) [.int .i64 (Int.tmod x1_1 3)] (fun _ => True) (fun _ => False) rfl rfl ?aP (fun _ hk => hk.elim) ?aF ?aO ?aB ?aS ?aL ?_; (case aP => exact rfl); (case aB => exact (by repeat (first | (with_reducible first | exact HB.out | apply below_alloc | apply pw_below_drewN | apply below_drew1) | exact HB.out))); (case aF => exact (fun _ _ => trivial)); (case aO => exact (by (with_reducible repeat (first | apply Kd.R_alloc | apply Kd.R_drewN | apply Kd.R_drew)); exact HO_5.out)); (case aS => exact (below_size (by repeat (first | (with_reducible first | exact HB.out | apply below_alloc | apply pw_below_drewN | apply below_drew1) | exact HB.out)))); (case aL => have := LMc4.out; omega); intro v103 w5 ho hb hg hat; rw [← Ny102.out] at ho; have n0_ := Aside0.mk (hb); have n1_ := Aside0.mk (ho); clear HB; clear HO_5; have HB := n0_; have HO104 := n1_; clear n0_ n1_; clear ho hb hg hat))
     go_roundg k1
     case measure => have := HK1.out; omega
     case rel => exact ⟨(wrap64 (x0_1 - 1)), (wrap64 (Int.tdiv x1_1 3)), (y102), (by first | rfl | (simp; done) | (simp [*]; done) | (simp [wrap64]; done)), (by first | rfl | (simp; done) | (simp [*]; done) | (simp [wrap64]; done)), H', ⟨by have := HK1.out; omega⟩, ⟨by (with_reducible repeat (first | apply Kd.R_alloc | apply Kd.R_drewN | apply Kd.R_drew)); exact HO104.out⟩, ⟨by repeat (first | (with_reducible first | exact HB.out | apply below_alloc | apply pw_below_drewN | apply below_drew1) | exact HB.out)⟩⟩
    ·rw [if_neg c4] at H
     exact absurd H (by simp)
   ·rw [if_neg c3] at H
    have c3b0 : decide (0 < x0_1) = false := decide_eq_false c3
    clear c3
    obtain rfl := Option.some.inj H
    simp only [Option.some.injEq, Prod.mk.injEq] at H
    obtain ⟨rfl⟩ := H
    go_wp2
    go_ret
    exact ⟨_, by first | rfl | (simp [errW_none, errW_some] <;> rfl) | (simp [*, errW_none, errW_some] <;> rfl), by (with_reducible repeat (first | apply Kd.R_alloc | apply Kd.R_drewN | apply Kd.R_drew)); exact HO_5.out, by repeat (first | (with_reducible first | exact HB.out | apply below_alloc | apply pw_below_drewN | apply below_drew1) | exact HB.out)⟩
/-! ### spec_l01Power: function 120 -/
def spec_l01Power.l0 : Nat → Int → Int → Option (Int)
 | 0, _, _ => none
 | k + 1, x0, x3 => if x0 > 0 then (spec_l01Power.l0 k (wrap64 (x0 - 1)) (wrap64 (3 * x3))) else (some x3)
def spec_l01Power.f (k : Nat) (a0 : Int) : Option (Int) := spec_l01Power.l0 k a0 1
theorem spec_l01Power.mono_l : ∀ k, (∀ y0 y1, LeO (spec_l01Power.l0 k y0 y1) (spec_l01Power.l0 (k + 1) y0 y1))
 | 0 => fun _ _ r h => by simp [spec_l01Power.l0] at h
 | k + 1 => by
  have ih0 := spec_l01Power.mono_l k
  ·intro y0 y1
   unfold spec_l01Power.l0
   repeat' first
   | (with_reducible exact ih0 _ _)
   | (with_reducible exact LeO.refl _)
   | (with_reducible exact LeO.none _)
   | (with_reducible refine LeO.ite ?_ ?_)
   | (with_reducible refine LeO.bind ?_ (fun _ => ?_))
   | exact ih0 _ _
   | exact LeO.none _
   | refine LeO.ite ?_ ?_
   | refine LeO.bind ?_ (fun _ => ?_)
theorem spec_l01Power.mono : ∀ a0 k, LeO (spec_l01Power.f k a0) (spec_l01Power.f (k + 1) a0) := by
 intro a0 k
 have ih0 := spec_l01Power.mono_l k
 unfold spec_l01Power.f
 repeat' first
   | (with_reducible exact ih0 _ _)
   | (with_reducible exact LeO.refl _)
   | (with_reducible exact LeO.none _)
   | (with_reducible refine LeO.ite ?_ ?_)
   | (with_reducible refine LeO.bind ?_ (fun _ => ?_))
   | exact ih0 _ _
   | exact LeO.none _
   | refine LeO.ite ?_ ?_
   | refine LeO.bind ?_ (fun _ => ?_)
set_option maxHeartbeats 8000000 in
set_option maxRecDepth 100000 in
theorem spec_l01Power.calls (k : Nat) (a0 : Int) (r : Int) (w : World) (h : spec_l01Power.f k a0 = some r) :
  Calls Tryd.prog 120 #[.int .i64 a0] w fun e w' => e = .returned (.int .i64 r) ∧ Drawn0 w w' := by
 have H : (spec_l01Power.l0 k a0 1) = some r := h
 clear h
 have H' := Aside0.mk H
 clear H
 go_enter Tryd.func120, Tryd.ntmps120
 go_wp2
 go_loopg [0, 3] k (fun kq v0 v3 w' => ∃ (x0_1 : Int) (x3_1 : Int), v0 = .int .i64 x0_1 ∧ v3 = .int .i64 x3_1 ∧ Aside0 (spec_l01Power.l0 kq x0_1 x3_1 = some r) ∧ Aside0 (kq ≤ k) ∧ Drawn0 w w')
 case atStart => exact ⟨(a0), (1), (by first | rfl | (simp; done) | (simp [*]; done) | (simp [wrap64]; done)), (by first | rfl | (simp; done) | (simp [*]; done) | (simp [wrap64]; done)), H', ⟨Nat.le_refl _⟩, by repeat (first | exact Drawn0.refl _ | apply Drawn0.step)⟩
 case round =>
  clear H'
  try clear c1
  obtain ⟨x0_1, x3_1, rfl, rfl, HA, HK1, ⟨m1, rfl⟩⟩ := hrel
  cases gk with
  | zero => exact absurd HA.out (by simp [spec_l01Power.l0])
  | succ k1 =>
   have H := HA.out
   clear HA
   simp only [spec_l01Power.l0] at H
   by_cases c2 : x0_1 > 0
   ·rw [if_pos c2] at H
    have c2b0 : decide (0 < x0_1) = true := decide_eq_true c2
    clear c2
    have H' := Aside0.mk H
    clear H
    go_wp2
    go_roundg k1
    case measure => have := HK1.out; omega
    case rel => exact ⟨(wrap64 (x0_1 - 1)), (wrap64 (3 * x3_1)), (by first | rfl | (simp; done) | (simp [*]; done) | (simp [wrap64]; done)), (by first | rfl | (simp; done) | (simp [*]; done) | (simp [wrap64]; done)), H', ⟨by have := HK1.out; omega⟩, by repeat (first | exact Drawn0.refl _ | apply Drawn0.step)⟩
   ·rw [if_neg c2] at H
    have c2b0 : decide (0 < x0_1) = false := decide_eq_false c2
    clear c2
    obtain rfl := Option.some.inj H
    simp only [Option.some.injEq, Prod.mk.injEq] at H
    obtain ⟨rfl⟩ := H
    go_wp2
    go_ret
    exact ⟨by first | rfl | (simp; done) | (simp [*]; done) | (simp [wrap64]; done), by repeat (first | exact Drawn0.refl _ | apply Drawn0.step)⟩
/-! ### spec_l01Wide: function 60 -/
def spec_l01Wide.f (k : Nat) (a0 : Int) : Option (Int) := (spec_l01Power.f k a0).bind fun t105 => (some (wrap64 (t105 - 1)))
theorem spec_l01Wide.mono : ∀ a0 k, LeO (spec_l01Wide.f k a0) (spec_l01Wide.f (k + 1) a0) := by
 intro a0 k
 unfold spec_l01Wide.f
 repeat' first
   | (with_reducible exact spec_l01Power.mono _ _)
   | (with_reducible exact LeO.refl _)
   | (with_reducible exact LeO.none _)
   | (with_reducible refine LeO.ite ?_ ?_)
   | (with_reducible refine LeO.bind ?_ (fun _ => ?_))
   | exact spec_l01Power.mono _ _
   | exact LeO.none _
   | refine LeO.ite ?_ ?_
   | refine LeO.bind ?_ (fun _ => ?_)
set_option maxHeartbeats 8000000 in
set_option maxRecDepth 100000 in
theorem spec_l01Wide.calls (k : Nat) (a0 : Int) (r : Int) (w : World) (h : spec_l01Wide.f k a0 = some r) :
  Calls Tryd.prog 60 #[.int .i64 a0] w fun e w' => e = .returned (.int .i64 r) ∧ Drawn0 w w' := by
 have H : ((spec_l01Power.f k a0).bind fun t105 => (some (wrap64 (t105 - 1)))) = some r := h
 clear h
 replace H := Option.bind_eq_some_iff.mp H
 obtain ⟨t105, A20, H⟩ := H
 replace H : (some (wrap64 (t105 - 1))) = some r := H
 have A2 := Aside0.mk A20
 clear A20
 obtain rfl := Option.some.inj H
 simp only [Option.some.injEq, Prod.mk.injEq] at H
 obtain ⟨rfl⟩ := H
 go_enter Tryd.func60, Tryd.ntmps60
 go_wp2_with (first | ((with_reducible refine gate_callee (f := 120) rfl ?_); refine goesL_ (some 4) rfl rfl Tryd.func120 (by kernel_rfl) rfl #[.int .i64 a0] rfl (by (try simp only [List.map_toArray, List.map_cons, List.map_nil]); first | done | rfl | (simp only [List.length_drop, List.length_take]; rfl)) ?_; (with_reducible refine (spec_l01Power.calls k a0 t105 _ A2.out).mono ?_); rintro e w' ⟨rfl, ⟨nd, rfl⟩⟩; refine ⟨_, rfl, ?_⟩))
 go_ret
 exact ⟨by first | rfl | (simp; done) | (simp [*]; done) | (simp [wrap64]; done), by repeat (first | exact Drawn0.refl _ | apply Drawn0.step)⟩
/-! ### spec_l01Digit: function 61 -/
def spec_l01Digit.f (k : Nat) (a0 : Int) (a1 : Int) : Option (Int) := (spec_l01Power.f k a1).bind fun t106 => (if t106 = 0 then (none) else (some (Int.tmod (wrap64 (Int.tdiv a0 t106)) 3)))
theorem spec_l01Digit.mono : ∀ a0 a1 k, LeO (spec_l01Digit.f k a0 a1) (spec_l01Digit.f (k + 1) a0 a1) := by
 intro a0 a1 k
 unfold spec_l01Digit.f
 repeat' first
   | (with_reducible exact spec_l01Power.mono _ _)
   | (with_reducible exact LeO.refl _)
   | (with_reducible exact LeO.none _)
   | (with_reducible refine LeO.ite ?_ ?_)
   | (with_reducible refine LeO.bind ?_ (fun _ => ?_))
   | exact spec_l01Power.mono _ _
   | exact LeO.none _
   | refine LeO.ite ?_ ?_
   | refine LeO.bind ?_ (fun _ => ?_)
set_option maxHeartbeats 8000000 in
set_option maxRecDepth 100000 in
theorem spec_l01Digit.calls (k : Nat) (a0 : Int) (a1 : Int) (r : Int) (w : World) (h : spec_l01Digit.f k a0 a1 = some r) :
  Calls Tryd.prog 61 #[.int .i64 a0, .int .i64 a1] w fun e w' => e = .returned (.int .i64 r) ∧ Drawn0 w w' := by
 have H : ((spec_l01Power.f k a1).bind fun t106 => (if t106 = 0 then (none) else (some (Int.tmod (wrap64 (Int.tdiv a0 t106)) 3)))) = some r := h
 clear h
 replace H := Option.bind_eq_some_iff.mp H
 obtain ⟨t106, A30, H⟩ := H
 replace H : (if t106 = 0 then (none) else (some (Int.tmod (wrap64 (Int.tdiv a0 t106)) 3))) = some r := H
 have A3 := Aside0.mk A30
 clear A30
 by_cases c4 : t106 = 0
 ·rw [if_pos c4] at H
  exact absurd H (by simp)
 ·rw [if_neg c4] at H
  have c4b0 : (t106 == 0) = false := beq_eq_false_iff_ne.mpr c4
  have c4b1 : (t106 != 0) = true := bne_iff_ne.mpr c4
  obtain rfl := Option.some.inj H
  simp only [Option.some.injEq, Prod.mk.injEq] at H
  obtain ⟨rfl⟩ := H
  go_enter Tryd.func61, Tryd.ntmps61
  go_wp2_with (first | ((with_reducible refine gate_callee (f := 120) rfl ?_); refine goesL_ (some 7) rfl rfl Tryd.func120 (by kernel_rfl) rfl #[.int .i64 a1] rfl (by (try simp only [List.map_toArray, List.map_cons, List.map_nil]); first | done | rfl | (simp only [List.length_drop, List.length_take]; rfl)) ?_; (with_reducible refine (spec_l01Power.calls k a1 t106 _ A3.out).mono ?_); rintro e w' ⟨rfl, ⟨nd, rfl⟩⟩; refine ⟨_, rfl, ?_⟩))
  go_ret
  exact ⟨by first | rfl | (simp; done) | (simp [*]; done) | (simp [wrap64]; done), by repeat (first | exact Drawn0.refl _ | apply Drawn0.step)⟩
/-! ### spec_l01Ended: function 157 -/
mutual
def spec_l01Ended.l0 : Nat → Int → Int → Int → Int → Option (Int)
 | 0, _, _, _, _ => none
 | k + 1, x0, x1, x2, x7 => if x7 < x0 then ((spec_l01Digit.f k x2 x7).bind fun t107 => (if t107 = 2 then (spec_l01Ended.j1 k x0 x1 x2 x7 (t107 == 2) false) else (if 0 ≤ (IntKind.u64.wrap (x7)) then (spec_l01Ended.j1 k x0 x1 x2 x7 (t107 == 2) ((Go.bits .and .i64 (shr .i64 x1 (IntKind.u64.wrap (x7))) 1) == 1)) else (none)))) else (some x1)
def spec_l01Ended.j1 : Nat → Int → Int → Int → Int → Bool → Bool → Option (Int)
 | 0, _, _, _, _, _, _ => none
 | k + 1, x0, x1, x2, x7, x8, x27 => if x27 = true then (some (-1)) else (if x8 = true then (if 0 ≤ (IntKind.u64.wrap (x7)) then (spec_l01Ended.l0 k x0 (Go.bits .or .i64 x1 (shl .i64 1 (IntKind.u64.wrap (x7)))) x2 (wrap64 (x7 + 1))) else (none)) else (spec_l01Ended.l0 k x0 x1 x2 (wrap64 (x7 + 1))))
end
def spec_l01Ended.f (k : Nat) (a0 : Int) (a1 : Int) (a2 : Int) : Option (Int) := spec_l01Ended.l0 k a0 a1 a2 0
theorem spec_l01Ended.mono_l : ∀ k, (∀ y0 y1 y2 y3, LeO (spec_l01Ended.l0 k y0 y1 y2 y3) (spec_l01Ended.l0 (k + 1) y0 y1 y2 y3)) ∧ (∀ y0 y1 y2 y3 y4 y5, LeO (spec_l01Ended.j1 k y0 y1 y2 y3 y4 y5) (spec_l01Ended.j1 (k + 1) y0 y1 y2 y3 y4 y5))
 | 0 => ⟨fun _ _ _ _ r h => by simp [spec_l01Ended.l0] at h, fun _ _ _ _ _ _ r h => by simp [spec_l01Ended.j1] at h⟩
 | k + 1 => by
  obtain ⟨ih0, ih1⟩ := spec_l01Ended.mono_l k
  refine ⟨?_, ?_⟩
  ·intro y0 y1 y2 y3
   unfold spec_l01Ended.l0
   repeat' first
   | (with_reducible exact ih0 _ _ _ _)
   | (with_reducible exact ih1 _ _ _ _ _ _)
   | (with_reducible exact spec_l01Digit.mono _ _ _)
   | (with_reducible exact LeO.refl _)
   | (with_reducible exact LeO.none _)
   | (with_reducible refine LeO.ite ?_ ?_)
   | (with_reducible refine LeO.bind ?_ (fun _ => ?_))
   | exact ih0 _ _ _ _
   | exact ih1 _ _ _ _ _ _
   | exact spec_l01Digit.mono _ _ _
   | exact LeO.none _
   | refine LeO.ite ?_ ?_
   | refine LeO.bind ?_ (fun _ => ?_)
  ·intro y0 y1 y2 y3 y4 y5
   unfold spec_l01Ended.j1
   repeat' first
   | (with_reducible exact ih0 _ _ _ _)
   | (with_reducible exact ih1 _ _ _ _ _ _)
   | (with_reducible exact spec_l01Digit.mono _ _ _)
   | (with_reducible exact LeO.refl _)
   | (with_reducible exact LeO.none _)
   | (with_reducible refine LeO.ite ?_ ?_)
   | (with_reducible refine LeO.bind ?_ (fun _ => ?_))
   | exact ih0 _ _ _ _
   | exact ih1 _ _ _ _ _ _
   | exact spec_l01Digit.mono _ _ _
   | exact LeO.none _
   | refine LeO.ite ?_ ?_
   | refine LeO.bind ?_ (fun _ => ?_)
theorem spec_l01Ended.mono : ∀ a0 a1 a2 k, LeO (spec_l01Ended.f k a0 a1 a2) (spec_l01Ended.f (k + 1) a0 a1 a2) := by
 intro a0 a1 a2 k
 obtain ⟨ih0, ih1⟩ := spec_l01Ended.mono_l k
 unfold spec_l01Ended.f
 repeat' first
   | (with_reducible exact ih0 _ _ _ _)
   | (with_reducible exact ih1 _ _ _ _ _ _)
   | (with_reducible exact spec_l01Digit.mono _ _ _)
   | (with_reducible exact LeO.refl _)
   | (with_reducible exact LeO.none _)
   | (with_reducible refine LeO.ite ?_ ?_)
   | (with_reducible refine LeO.bind ?_ (fun _ => ?_))
   | exact ih0 _ _ _ _
   | exact ih1 _ _ _ _ _ _
   | exact spec_l01Digit.mono _ _ _
   | exact LeO.none _
   | refine LeO.ite ?_ ?_
   | refine LeO.bind ?_ (fun _ => ?_)
set_option maxHeartbeats 8000000 in
set_option maxRecDepth 100000 in
theorem spec_l01Ended.calls (k : Nat) (a0 : Int) (a1 : Int) (a2 : Int) (r : Int) (w : World) (h : spec_l01Ended.f k a0 a1 a2 = some r) :
  Calls Tryd.prog 157 #[.int .i64 a0, .int .i64 a1, .int .i64 a2] w fun e w' => e = .returned (.int .i64 r) ∧ Drawn0 w w' := by
 have H : (spec_l01Ended.l0 k a0 a1 a2 0) = some r := h
 clear h
 have H' := Aside0.mk H
 clear H
 go_enter Tryd.func157, Tryd.ntmps157
 go_wp2
 go_loopg [1, 7] k (fun kq v1 v7 w' => ∃ (x1_1 : Int) (x7_1 : Int), v1 = .int .i64 x1_1 ∧ v7 = .int .i64 x7_1 ∧ Aside0 (spec_l01Ended.l0 kq a0 x1_1 a2 x7_1 = some r) ∧ Aside0 (kq ≤ k) ∧ Drawn0 w w')
 case atStart => exact ⟨(a1), (0), (by first | rfl | (simp; done) | (simp [*]; done) | (simp [wrap64]; done)), (by first | rfl | (simp; done) | (simp [*]; done) | (simp [wrap64]; done)), H', ⟨Nat.le_refl _⟩, by repeat (first | exact Drawn0.refl _ | apply Drawn0.step)⟩
 case round =>
  clear H'
  try clear c1
  try clear p2
  obtain ⟨x1_1, x7_1, rfl, rfl, HA, HK1, ⟨m1, rfl⟩⟩ := hrel
  cases gk with
  | zero => exact absurd HA.out (by simp [spec_l01Ended.l0])
  | succ k1 =>
   have H := HA.out
   clear HA
   simp only [spec_l01Ended.l0] at H
   by_cases c4 : x7_1 < a0
   ·rw [if_pos c4] at H
    have c4b0 : decide (x7_1 < a0) = true := decide_eq_true c4
    clear c4
    replace H := Option.bind_eq_some_iff.mp H
    obtain ⟨t107, A50, H⟩ := H
    replace H : (if t107 = 2 then (spec_l01Ended.j1 k1 a0 x1_1 a2 x7_1 (t107 == 2) false) else (if 0 ≤ (IntKind.u64.wrap (x7_1)) then (spec_l01Ended.j1 k1 a0 x1_1 a2 x7_1 (t107 == 2) ((Go.bits .and .i64 (shr .i64 x1_1 (IntKind.u64.wrap (x7_1))) 1) == 1)) else (none))) = some r := H
    have A5 := Aside0.mk A50
    clear A50
    have HC6 := Aside0.mk H
    clear H
    go_upto_region 5 with (first | ((with_reducible refine gate_callee (f := 61) rfl ?_); refine goesL_ (some 16) rfl rfl Tryd.func61 (by kernel_rfl) rfl #[.int .i64 a2, .int .i64 x7_1] rfl (by (try simp only [List.map_toArray, List.map_cons, List.map_nil]); first | done | rfl | (simp only [List.length_drop, List.length_take]; rfl)) ?_; (with_reducible refine (spec_l01Digit.calls k1 a2 x7_1 t107 _ A5.out).mono ?_); rintro e w' ⟨rfl, ⟨nd, rfl⟩⟩; refine ⟨_, rfl, ?_⟩))
    (try simp only [Act.put, List.setIfInBounds_toArray, List.set_cons_zero, List.set_cons_succ])
    obtain ⟨bq, hbq⟩ : ∃ b : Bool, Aside0 ((t107 == 2) = b) := ⟨_, ⟨rfl⟩⟩
    rw [hbq.out]
    go_cut [27] (fun v27 wc => ∃ (kq : Nat) (x27_5 : Bool), v27 = .bool x27_5 ∧ Aside0 (spec_l01Ended.j1 kq a0 x1_1 a2 x7_1 bq x27_5 = some r) ∧ Aside0 (kq ≤ k1) ∧ Drawn0 w wc)
    case first =>
     have H := HC6.out
     clear HC6
     by_cases c7 : t107 = 2
     ·rw [if_pos c7] at H
      have c7b0 : (t107 == 2) = true := beq_iff_eq.mpr c7
      obtain rfl : bq = true := by rw [← hbq.out]; exact c7b0
      rw [c7b0] at H
      have c7b1 : (t107 != 2) = false := bne_eq_false_iff_eq.mpr c7
      clear c7
      (first | rw [c7b0] | (simp only [i64_w, i32_w]; rw [c7b0]) | skip)
      have H' := Aside0.mk H
      clear H
      go_wp2
      go_meet
      case rel => exact ⟨_, (false), (by first | rfl | (simp; done) | (simp [*]; done) | (simp [wrap64]; done)), H', ⟨by have := HK1.out; first | omega | exact Nat.le_refl _⟩, by repeat (first | exact Drawn0.refl _ | apply Drawn0.step)⟩
     ·rw [if_neg c7] at H
      have c7b0 : (t107 == 2) = false := beq_eq_false_iff_ne.mpr c7
      obtain rfl : bq = false := by rw [← hbq.out]; exact c7b0
      rw [c7b0] at H
      have c7b1 : (t107 != 2) = true := bne_iff_ne.mpr c7
      (first | rw [c7b0] | (simp only [i64_w, i32_w]; rw [c7b0]) | skip)
      obtain ⟨ji8, hji8⟩ : ∃ j_ : Int, (IntKind.u64.wrap (x7_1)) = j_ := ⟨_, rfl⟩
      replace H : (if 0 ≤ (ji8) then (spec_l01Ended.j1 k1 a0 x1_1 a2 x7_1 false ((Go.bits .and .i64 (shr .i64 x1_1 (ji8)) 1) == 1)) else (none)) = some r := by first | (rw [hji8] at H; exact H) | (simp only [hji8] at H ⊢; exact H)
      by_cases c9 : 0 ≤ (ji8)
      ·rw [if_pos c9] at H
       have c9b0 := eq_true c9
       have c9b1 : decide (0 ≤ (ji8)) = true := decide_eq_true c9
       clear c9
       obtain ⟨ji10, hji10⟩ : ∃ j_ : Int, (shr .i64 x1_1 (ji8)) = j_ := ⟨_, rfl⟩
       replace H : (spec_l01Ended.j1 k1 a0 x1_1 a2 x7_1 false ((Go.bits .and .i64 (ji10) 1) == 1)) = some r := by first | (rw [hji10] at H; exact H) | (simp only [hji10] at H ⊢; exact H)
       have hji10_ : (x1_1 / 2 ^ min (ji8).toNat 64) = ji10 := hji10
       have hji10z : (ji8) ≤ 64 → (x1_1 / 2 ^ (ji8).toNat) = ji10 := shr_small hji10
       have H' := Aside0.mk H
       clear H
       go_wp2
       go_meet
       case rel => exact ⟨_, (((Go.bits .and .i64 (ji10) 1) == 1)), (by first | rfl | (simp; done) | (simp only [← hji10] <;> (first | rfl | simp)) | (simp [*]; done)), H', ⟨by have := HK1.out; first | omega | exact Nat.le_refl _⟩, by repeat (first | exact Drawn0.refl _ | apply Drawn0.step)⟩
      ·rw [if_neg c9] at H
       exact absurd H (by simp)
    case rest =>
     clear HC6
     try clear c1
     try clear p2
     try clear c4
     try clear c4b0
     try clear c6
     try clear p6
     try clear c7
     try clear c7b0
     try clear c7b1
     try clear c9
     try clear c9b0
     try clear c9b1
     try clear p2
     obtain ⟨kq, x27_5, rfl, HA, HJ5, ⟨mc5, rfl⟩⟩ := hcut
     cases kq with
     | zero => exact absurd HA.out (by simp [spec_l01Ended.j1])
     | succ kj5 =>
      have H := HA.out
      clear HA
      simp only [spec_l01Ended.j1] at H
      by_cases c11 : x27_5 = true
      ·subst c11
       have H1 : (some (-1)) = some r := by rw [if_pos rfl] at H; exact H
       clear H
       have H := H1
       clear H1
       obtain rfl := Option.some.inj H
       simp only [Option.some.injEq, Prod.mk.injEq] at H
       obtain ⟨rfl⟩ := H
       go_wp2
       go_ret
       exact ⟨by first | rfl | (simp; done) | (simp [*]; done) | (simp [wrap64]; done), by repeat (first | exact Drawn0.refl _ | apply Drawn0.step)⟩
      ·replace c11 := Bool.eq_false_iff.mpr c11
       subst c11
       have H1 : (if bq = true then (if 0 ≤ (IntKind.u64.wrap (x7_1)) then (spec_l01Ended.l0 kj5 a0 (Go.bits .or .i64 x1_1 (shl .i64 1 (IntKind.u64.wrap (x7_1)))) a2 (wrap64 (x7_1 + 1))) else (none)) else (spec_l01Ended.l0 kj5 a0 x1_1 a2 (wrap64 (x7_1 + 1)))) = some r := by rw [if_neg (show ¬ (false = true) by decide)] at H; exact H
       clear H
       have H := H1
       clear H1
       by_cases c12 : bq = true
       ·rw [if_pos c12] at H
        obtain rfl : bq = true := c12
        obtain ⟨ji13, hji13⟩ : ∃ j_ : Int, (IntKind.u64.wrap (x7_1)) = j_ := ⟨_, rfl⟩
        replace H : (if 0 ≤ (ji13) then (spec_l01Ended.l0 kj5 a0 (Go.bits .or .i64 x1_1 (shl .i64 1 (ji13))) a2 (wrap64 (x7_1 + 1))) else (none)) = some r := by first | (rw [hji13] at H; exact H) | (simp only [hji13] at H ⊢; exact H)
        by_cases c14 : 0 ≤ (ji13)
        ·rw [if_pos c14] at H
         have c14b0 := eq_true c14
         have c14b1 : decide (0 ≤ (ji13)) = true := decide_eq_true c14
         clear c14
         obtain ⟨ji15, hji15⟩ : ∃ j_ : Int, (shl .i64 1 (ji13)) = j_ := ⟨_, rfl⟩
         replace H : (spec_l01Ended.l0 kj5 a0 (Go.bits .or .i64 x1_1 (ji15)) a2 (wrap64 (x7_1 + 1))) = some r := by first | (rw [hji15] at H; exact H) | (simp only [hji15] at H ⊢; exact H)
         have hji15_ : (IntKind.i64.wrap (1 * 2 ^ min (ji13).toNat 64)) = ji15 := hji15
         have hji15z : (ji13) ≤ 64 → (IntKind.i64.wrap (1 * 2 ^ (ji13).toNat)) = ji15 := shl_small hji15
         have hji15u : (IntKind.i64.wrap (2 ^ min (ji13).toNat 64)) = ji15 := by have h_ := hji15_; rw [Int.one_mul] at h_; exact h_
         have hji15v : (ji13) ≤ 64 → (IntKind.i64.wrap (2 ^ (ji13).toNat)) = ji15 := fun hle_ => by have h_ := hji15z hle_; rw [Int.one_mul] at h_; exact h_
         have hji15y : (wrap64 (1 * 2 ^ min (ji13).toNat 64)) = ji15 := (i64_w _).symm.trans hji15_
         have hji15x : (ji13) ≤ 64 → (wrap64 (1 * 2 ^ (ji13).toNat)) = ji15 := fun h_ => (i64_w _).symm.trans (hji15z h_)
         have H' := Aside0.mk H
         clear H
         go_wp2
         go_roundg kj5
         case measure => have := HK1.out; have := HJ5.out; omega
         case rel => exact ⟨(Go.bits .or .i64 x1_1 (ji15)), (wrap64 (x7_1 + 1)), (by first | rfl | (simp; done) | (simp only [← hji15] <;> (first | rfl | simp)) | (simp [*]; done)), (by first | rfl | (simp; done) | (simp [*]; done) | (simp [wrap64]; done)), H', ⟨by have := HK1.out; have := HJ5.out; omega⟩, by repeat (first | exact Drawn0.refl _ | apply Drawn0.step)⟩
        ·rw [if_neg c14] at H
         exact absurd H (by simp)
       ·rw [if_neg c12] at H
        obtain rfl : bq = false := Bool.eq_false_iff.mpr c12
        have H' := Aside0.mk H
        clear H
        go_wp2
        go_roundg kj5
        case measure => have := HK1.out; have := HJ5.out; omega
        case rel => exact ⟨(x1_1), (wrap64 (x7_1 + 1)), (by first | rfl | (simp; done) | (simp [*]; done) | (simp [wrap64]; done)), (by first | rfl | (simp; done) | (simp [*]; done) | (simp [wrap64]; done)), H', ⟨by have := HK1.out; have := HJ5.out; omega⟩, by repeat (first | exact Drawn0.refl _ | apply Drawn0.step)⟩
   ·rw [if_neg c4] at H
    have c4b0 : decide (x7_1 < a0) = false := decide_eq_false c4
    clear c4
    obtain rfl := Option.some.inj H
    simp only [Option.some.injEq, Prod.mk.injEq] at H
    obtain ⟨rfl⟩ := H
    go_wp2
    go_ret
    exact ⟨by first | rfl | (simp; done) | (simp [*]; done) | (simp [wrap64]; done), by repeat (first | exact Drawn0.refl _ | apply Drawn0.step)⟩
/-! ### spec_l01Alike: function 158 -/
def spec_l01Alike.l0 : Nat → List Int → Int → Int → Int → Int → Int → List Bool → List (List Int) → Option (Bool)
 | 0, _, _, _, _, _, _, _, _ => none
 | k + 1, x1, x2, x3, x9, x81000, x81001, x81002, x81003 => if 0 ≤ x2 then (if x2 < (x81003.length : Int) then (if x9 < ((rd_L1 x81003 x2).length : Int) then (if 0 ≤ x9 then (if 0 ≤ (rd (rd_L1 x81003 x2) x9) then (if (rd (rd_L1 x81003 x2) x9) < (x1.length : Int) then (if 0 ≤ x3 then (if x3 < (x81003.length : Int) then (if x9 < ((rd_L1 x81003 x3).length : Int) then (if 0 ≤ (rd (rd_L1 x81003 x3) x9) then (if (rd (rd_L1 x81003 x3) x9) < (x1.length : Int) then (if (rd x1 (rd (rd_L1 x81003 x2) x9)) = (rd x1 (rd (rd_L1 x81003 x3) x9)) then (spec_l01Alike.l0 k x1 x2 x3 (wrap64 (x9 + 1)) x81000 x81001 x81002 x81003) else (some false)) else (none)) else (none)) else (none)) else (none)) else (none)) else (none)) else (none)) else (none)) else (some true)) else (none)) else (none)
def spec_l01Alike.f (k : Nat) (a0_0 : Int) (a0_1 : Int) (l0_2 : List Bool) (l0_3 : List (List Int)) (l1 : List Int) (a2 : Int) (a3 : Int) : Option (Bool) := spec_l01Alike.l0 k l1 a2 a3 0 a0_0 a0_1 l0_2 l0_3
theorem spec_l01Alike.mono_l : ∀ k, (∀ y0 y1 y2 y3 y4 y5 y6 y7, LeO (spec_l01Alike.l0 k y0 y1 y2 y3 y4 y5 y6 y7) (spec_l01Alike.l0 (k + 1) y0 y1 y2 y3 y4 y5 y6 y7))
 | 0 => fun _ _ _ _ _ _ _ _ r h => by simp [spec_l01Alike.l0] at h
 | k + 1 => by
  have ih0 := spec_l01Alike.mono_l k
  ·intro y0 y1 y2 y3 y4 y5 y6 y7
   unfold spec_l01Alike.l0
   repeat' first
   | (with_reducible exact ih0 _ _ _ _ _ _ _ _)
   | (with_reducible exact LeO.refl _)
   | (with_reducible exact LeO.none _)
   | (with_reducible refine LeO.ite ?_ ?_)
   | (with_reducible refine LeO.bind ?_ (fun _ => ?_))
   | exact ih0 _ _ _ _ _ _ _ _
   | exact LeO.none _
   | refine LeO.ite ?_ ?_
   | refine LeO.bind ?_ (fun _ => ?_)
theorem spec_l01Alike.mono : ∀ a0 a1 a2 a3 a4 a5 a6 k, LeO (spec_l01Alike.f k a0 a1 a2 a3 a4 a5 a6) (spec_l01Alike.f (k + 1) a0 a1 a2 a3 a4 a5 a6) := by
 intro a0 a1 a2 a3 a4 a5 a6 k
 have ih0 := spec_l01Alike.mono_l k
 unfold spec_l01Alike.f
 repeat' first
   | (with_reducible exact ih0 _ _ _ _ _ _ _ _)
   | (with_reducible exact LeO.refl _)
   | (with_reducible exact LeO.none _)
   | (with_reducible refine LeO.ite ?_ ?_)
   | (with_reducible refine LeO.bind ?_ (fun _ => ?_))
   | exact ih0 _ _ _ _ _ _ _ _
   | exact LeO.none _
   | refine LeO.ite ?_ ?_
   | refine LeO.bind ?_ (fun _ => ?_)
set_option maxHeartbeats 8000000 in
set_option maxRecDepth 100000 in
theorem spec_l01Alike.calls (k : Nat) (gp0 : Nat) (a0_0 : Int) (a0_1 : Int) (A0_2 : Option Addr) (c0_2 : Nat) (l0_2 : List Bool) (A0_3 : Option Addr) (c0_3 : Nat) (l0_3 : List (List Int)) (A1 : Option Addr) (c1 : Nat) (l1 : List Int) (a2 : Int) (a3 : Int) (r : Bool) (w : World) (hb0 : w.heap[gp0]? = some (.cells #[.int .i64 a0_0, .int .i64 a0_1, .slice A0_2 l0_2.length c0_2, .slice A0_3 l0_3.length c0_3] 29 (0, 0))) (hr0_2 : Kd.C Kd.bool w A0_2 l0_2.length l0_2) (hc0_2 : l0_2.length ≤ c0_2) (hr0_3 : Kd.C (Kd.slice 2 (Kd.int .i64)) w A0_3 l0_3.length l0_3) (hc0_3 : l0_3.length ≤ c0_3) (hr1 : Kd.C (Kd.int .i64) w A1 l1.length l1) (hc1 : l1.length ≤ c1) (h : spec_l01Alike.f k a0_0 a0_1 l0_2 l0_3 l1 a2 a3 = some r) :
  Calls Tryd.prog 158 #[.pointer (some ⟨gp0, 0, none⟩), .slice A1 l1.length c1, .int .i64 a2, .int .i64 a3] w fun e w' => e = .returned (.bool r) ∧ Below w.heap.size w w' := by
 have HR0_2 := Aside0.mk hr0_2
 have HC0_2 := Aside0.mk hc0_2
 clear hr0_2 hc0_2
 have HR0_3 := Aside0.mk hr0_3
 have HC0_3 := Aside0.mk hc0_3
 clear hr0_3 hc0_3
 have HR1 := Aside0.mk hr1
 have HC1 := Aside0.mk hc1
 clear hr1 hc1
 have BK80 := Aside0.mk hb0
 clear hb0
 have HB := Aside0.mk (Below.refl w.heap.size w)
 have H : (spec_l01Alike.l0 k l1 a2 a3 0 a0_0 a0_1 l0_2 l0_3) = some r := h
 clear h
 have H' := Aside0.mk H
 clear H
 go_enter Tryd.func158, Tryd.ntmps158
 go_wp2
 repeat (go_quiet (fail); try go_wp2)
 go_loopg [9] k (fun kq v9 w' => ∃ (x9_1 : Int), v9 = .int .i64 x9_1 ∧ Aside0 (spec_l01Alike.l0 kq l1 a2 a3 x9_1 a0_0 a0_1 l0_2 l0_3 = some r) ∧ Aside0 (kq ≤ k) ∧ Aside0 (w'.heap[gp0]? = some (.cells #[.int .i64 a0_0, .int .i64 a0_1, (.slice A0_2 l0_2.length c0_2), (.slice A0_3 l0_3.length c0_3)] 29 (0, 0))) ∧ Aside0 (Below w.heap.size w w'))
 case atStart => exact ⟨(0), (by first | rfl | (simp; done) | (simp [*]; done) | (simp [wrap64]; done)), H', ⟨Nat.le_refl _⟩, ⟨by (with_reducible repeat (first | refine blk_drewN ?_ _ | refine blk_drew ?_ | refine blk_alloc ?_ _)); exact BK80.out⟩, ⟨by repeat (first | (with_reducible first | exact HB.out | apply below_alloc | apply pw_below_drewN | apply below_drew1 | refine below_set ?_ GE80.out) | exact HB.out)⟩⟩
 case round =>
  clear H'
  try clear c1
  try clear p2
  obtain ⟨x9_1, rfl, HA, HK1, BK80, HB⟩ := hrel
  cases gk with
  | zero => exact absurd HA.out (by simp [spec_l01Alike.l0])
  | succ k1 =>
   have H := HA.out
   clear HA
   simp only [spec_l01Alike.l0] at H
   by_cases c5 : 0 ≤ a2
   ·rw [if_pos c5] at H
    have c5b0 : decide (0 ≤ a2) = true := decide_eq_true c5
    clear c5
    by_cases c6 : a2 < (l0_3.length : Int)
    ·rw [if_pos c6] at H
     have c6b0 : decide (a2 < (l0_3.length : Int)) = true := decide_eq_true c6
     clear c6
     by_cases c7 : x9_1 < ((rd_L1 l0_3 a2).length : Int)
     ·rw [if_pos c7] at H
      have c7b0 : decide (x9_1 < ((rd_L1 l0_3 a2).length : Int)) = true := decide_eq_true c7
      clear c7
      by_cases c8 : 0 ≤ x9_1
      ·rw [if_pos c8] at H
       have c8b0 : decide (0 ≤ x9_1) = true := decide_eq_true c8
       clear c8
       by_cases c9 : 0 ≤ (rd (rd_L1 l0_3 a2) x9_1)
       ·rw [if_pos c9] at H
        have c9b0 : decide (0 ≤ (rd (rd_L1 l0_3 a2) x9_1)) = true := decide_eq_true c9
        clear c9
        by_cases c10 : (rd (rd_L1 l0_3 a2) x9_1) < (l1.length : Int)
        ·rw [if_pos c10] at H
         have c10b0 : decide ((rd (rd_L1 l0_3 a2) x9_1) < (l1.length : Int)) = true := decide_eq_true c10
         clear c10
         by_cases c11 : 0 ≤ a3
         ·rw [if_pos c11] at H
          have c11b0 : decide (0 ≤ a3) = true := decide_eq_true c11
          clear c11
          by_cases c12 : a3 < (l0_3.length : Int)
          ·rw [if_pos c12] at H
           have c12b0 : decide (a3 < (l0_3.length : Int)) = true := decide_eq_true c12
           clear c12
           by_cases c13 : x9_1 < ((rd_L1 l0_3 a3).length : Int)
           ·rw [if_pos c13] at H
            have c13b0 : decide (x9_1 < ((rd_L1 l0_3 a3).length : Int)) = true := decide_eq_true c13
            clear c13
            by_cases c14 : 0 ≤ (rd (rd_L1 l0_3 a3) x9_1)
            ·rw [if_pos c14] at H
             have c14b0 : decide (0 ≤ (rd (rd_L1 l0_3 a3) x9_1)) = true := decide_eq_true c14
             clear c14
             by_cases c15 : (rd (rd_L1 l0_3 a3) x9_1) < (l1.length : Int)
             ·rw [if_pos c15] at H
              have c15b0 : decide ((rd (rd_L1 l0_3 a3) x9_1) < (l1.length : Int)) = true := decide_eq_true c15
              clear c15
              by_cases c16 : (rd l1 (rd (rd_L1 l0_3 a2) x9_1)) = (rd l1 (rd (rd_L1 l0_3 a3) x9_1))
              ·rw [if_pos c16] at H
               have c16b0 : ((rd l1 (rd (rd_L1 l0_3 a2) x9_1)) == (rd l1 (rd (rd_L1 l0_3 a3) x9_1))) = true := beq_iff_eq.mpr c16
               have c16b1 : ((rd l1 (rd (rd_L1 l0_3 a2) x9_1)) != (rd l1 (rd (rd_L1 l0_3 a3) x9_1))) = false := bne_eq_false_iff_eq.mpr c16
               clear c16
               have H' := Aside0.mk H
               clear H
               have hcz17_0 : wr.cell? ⟨gp0, 0, none⟩ = some (.int .i64 a0_0) := (blk_cell BK80.out 0).trans rfl
               have hcz17_1 : wr.cell? ⟨gp0, 1, none⟩ = some (.int .i64 a0_1) := (blk_cell BK80.out 1).trans rfl
               have hcz17_2 : wr.cell? ⟨gp0, 2, none⟩ = some (.slice A0_2 l0_2.length c0_2) := (blk_cell BK80.out 2).trans rfl
               have hcz17_3 : wr.cell? ⟨gp0, 3, none⟩ = some (.slice A0_3 l0_3.length c0_3) := (blk_cell BK80.out 3).trans rfl
               have hfz17_0 := blk_frozen BK80.out 0
               have hfz17_1 := blk_frozen BK80.out 1
               have hfz17_2 := blk_frozen BK80.out 2
               have hfz17_3 := blk_frozen BK80.out 3
               have p108 : 0 ≤ (a2 : Int) := of_decide_eq_true (by first | (with_reducible assumption) | assumption)
               have q108 : a2 < (l0_3.length : Int) := of_decide_eq_true (by first | (with_reducible assumption) | assumption)
               obtain ⟨ad108, A108_0, c108_0, e108, hx108_0, hl108_0, hi108_0⟩ := at_L1 HR0_3.out a2 p108 q108
               cases e108
               replace hx108_0 := (HB.out.cell (World.block_lt_of_cell? w _ hx108_0)).trans hx108_0
               have HR108_0 := Aside0.mk hi108_0
               have HC108_0 := Aside0.mk hl108_0
               clear hi108_0 hl108_0
               replace p108 := eq_true p108
               replace q108 := eq_true q108
               have p109 : 0 ≤ (a2 : Int) := of_decide_eq_true (by first | (with_reducible assumption) | assumption)
               have q109 : a2 < (l0_3.length : Int) := of_decide_eq_true (by first | (with_reducible assumption) | assumption)
               obtain ⟨ad109, A109_0, c109_0, e109, hx109_0, hl109_0, hi109_0⟩ := at_L1 HR0_3.out a2 p109 q109
               obtain rfl : ad108 = ad109 := (by injection e109)
               replace hx109_0 := (HB.out.cell (World.block_lt_of_cell? w _ hx109_0)).trans hx109_0
               have HR109_0 := Aside0.mk hi109_0
               have HC109_0 := Aside0.mk hl109_0
               clear hi109_0 hl109_0
               replace p109 := eq_true p109
               replace q109 := eq_true q109
               have ea_ := Option.some.inj (hx108_0.symm.trans hx109_0)
               injection ea_ with ea_ en_ ec_
               subst ea_
               subst ec_
               clear en_
               have p110 : 0 ≤ (x9_1 : Int) := of_decide_eq_true (by first | (with_reducible assumption) | assumption)
               have q110 : x9_1 < ((rd_L1 l0_3 a2).length : Int) := of_decide_eq_true (by first | (with_reducible assumption) | assumption)
               obtain ⟨ad110, e110, hx110_0⟩ := Kd.at_int HR109_0.out x9_1 p110 q110
               cases e110
               replace hx110_0 := (HB.out.cell (World.block_lt_of_cell? w _ hx110_0)).trans hx110_0
               replace p110 := eq_true p110
               replace q110 := eq_true q110
               have p111 : 0 ≤ ((rd (rd_L1 l0_3 a2) x9_1) : Int) := of_decide_eq_true (by first | (with_reducible assumption) | assumption)
               have q111 : (rd (rd_L1 l0_3 a2) x9_1) < (l1.length : Int) := of_decide_eq_true (by first | (with_reducible assumption) | assumption)
               obtain ⟨ad111, e111, hx111_0⟩ := Kd.at_int HR1.out (rd (rd_L1 l0_3 a2) x9_1) p111 q111
               cases e111
               replace hx111_0 := (HB.out.cell (World.block_lt_of_cell? w _ hx111_0)).trans hx111_0
               replace p111 := eq_true p111
               replace q111 := eq_true q111
               have p112 : 0 ≤ (a3 : Int) := of_decide_eq_true (by first | (with_reducible assumption) | assumption)
               have q112 : a3 < (l0_3.length : Int) := of_decide_eq_true (by first | (with_reducible assumption) | assumption)
               obtain ⟨ad112, A112_0, c112_0, e112, hx112_0, hl112_0, hi112_0⟩ := at_L1 HR0_3.out a3 p112 q112
               obtain rfl : ad108 = ad112 := (by injection e112)
               replace hx112_0 := (HB.out.cell (World.block_lt_of_cell? w _ hx112_0)).trans hx112_0
               have HR112_0 := Aside0.mk hi112_0
               have HC112_0 := Aside0.mk hl112_0
               clear hi112_0 hl112_0
               replace p112 := eq_true p112
               replace q112 := eq_true q112
               have p113 : 0 ≤ (x9_1 : Int) := of_decide_eq_true (by first | (with_reducible assumption) | assumption)
               have q113 : x9_1 < ((rd_L1 l0_3 a3).length : Int) := of_decide_eq_true (by first | (with_reducible assumption) | assumption)
               obtain ⟨ad113, e113, hx113_0⟩ := Kd.at_int HR112_0.out x9_1 p113 q113
               cases e113
               replace hx113_0 := (HB.out.cell (World.block_lt_of_cell? w _ hx113_0)).trans hx113_0
               replace p113 := eq_true p113
               replace q113 := eq_true q113
               have p114 : 0 ≤ ((rd (rd_L1 l0_3 a3) x9_1) : Int) := of_decide_eq_true (by first | (with_reducible assumption) | assumption)
               have q114 : (rd (rd_L1 l0_3 a3) x9_1) < (l1.length : Int) := of_decide_eq_true (by first | (with_reducible assumption) | assumption)
               obtain ⟨ad114, e114, hx114_0⟩ := Kd.at_int HR1.out (rd (rd_L1 l0_3 a3) x9_1) p114 q114
               obtain rfl : ad111 = ad114 := (by injection e114)
               replace hx114_0 := (HB.out.cell (World.block_lt_of_cell? w _ hx114_0)).trans hx114_0
               replace p114 := eq_true p114
               replace q114 := eq_true q114
               go_wp2
               repeat (go_quiet (fail); try go_wp2)
               go_roundg k1
               case measure => have := HK1.out; omega
               case rel => exact ⟨(wrap64 (x9_1 + 1)), (by first | rfl | (simp; done) | (simp [*]; done) | (simp [wrap64]; done)), H', ⟨by have := HK1.out; omega⟩, ⟨by (with_reducible repeat (first | refine blk_drewN ?_ _ | refine blk_drew ?_ | refine blk_alloc ?_ _)); exact BK80.out⟩, ⟨by repeat (first | (with_reducible first | exact HB.out | apply below_alloc | apply pw_below_drewN | apply below_drew1 | refine below_set ?_ GE80.out) | exact HB.out)⟩⟩
              ·rw [if_neg c16] at H
               have c16b0 : ((rd l1 (rd (rd_L1 l0_3 a2) x9_1)) == (rd l1 (rd (rd_L1 l0_3 a3) x9_1))) = false := beq_eq_false_iff_ne.mpr c16
               have c16b1 : ((rd l1 (rd (rd_L1 l0_3 a2) x9_1)) != (rd l1 (rd (rd_L1 l0_3 a3) x9_1))) = true := bne_iff_ne.mpr c16
               obtain rfl := Option.some.inj H
               simp only [Option.some.injEq, Prod.mk.injEq] at H
               obtain ⟨rfl⟩ := H
               have hcz18_0 : wr.cell? ⟨gp0, 0, none⟩ = some (.int .i64 a0_0) := (blk_cell BK80.out 0).trans rfl
               have hcz18_1 : wr.cell? ⟨gp0, 1, none⟩ = some (.int .i64 a0_1) := (blk_cell BK80.out 1).trans rfl
               have hcz18_2 : wr.cell? ⟨gp0, 2, none⟩ = some (.slice A0_2 l0_2.length c0_2) := (blk_cell BK80.out 2).trans rfl
               have hcz18_3 : wr.cell? ⟨gp0, 3, none⟩ = some (.slice A0_3 l0_3.length c0_3) := (blk_cell BK80.out 3).trans rfl
               have hfz18_0 := blk_frozen BK80.out 0
               have hfz18_1 := blk_frozen BK80.out 1
               have hfz18_2 := blk_frozen BK80.out 2
               have hfz18_3 := blk_frozen BK80.out 3
               have p108 : 0 ≤ (a2 : Int) := of_decide_eq_true (by first | (with_reducible assumption) | assumption)
               have q108 : a2 < (l0_3.length : Int) := of_decide_eq_true (by first | (with_reducible assumption) | assumption)
               obtain ⟨ad108, A108_0, c108_0, e108, hx108_0, hl108_0, hi108_0⟩ := at_L1 HR0_3.out a2 p108 q108
               cases e108
               replace hx108_0 := (HB.out.cell (World.block_lt_of_cell? w _ hx108_0)).trans hx108_0
               have HR108_0 := Aside0.mk hi108_0
               have HC108_0 := Aside0.mk hl108_0
               clear hi108_0 hl108_0
               replace p108 := eq_true p108
               replace q108 := eq_true q108
               have p109 : 0 ≤ (a2 : Int) := of_decide_eq_true (by first | (with_reducible assumption) | assumption)
               have q109 : a2 < (l0_3.length : Int) := of_decide_eq_true (by first | (with_reducible assumption) | assumption)
               obtain ⟨ad109, A109_0, c109_0, e109, hx109_0, hl109_0, hi109_0⟩ := at_L1 HR0_3.out a2 p109 q109
               obtain rfl : ad108 = ad109 := (by injection e109)
               replace hx109_0 := (HB.out.cell (World.block_lt_of_cell? w _ hx109_0)).trans hx109_0
               have HR109_0 := Aside0.mk hi109_0
               have HC109_0 := Aside0.mk hl109_0
               clear hi109_0 hl109_0
               replace p109 := eq_true p109
               replace q109 := eq_true q109
               have ea_ := Option.some.inj (hx108_0.symm.trans hx109_0)
               injection ea_ with ea_ en_ ec_
               subst ea_
               subst ec_
               clear en_
               have p110 : 0 ≤ (x9_1 : Int) := of_decide_eq_true (by first | (with_reducible assumption) | assumption)
               have q110 : x9_1 < ((rd_L1 l0_3 a2).length : Int) := of_decide_eq_true (by first | (with_reducible assumption) | assumption)
               obtain ⟨ad110, e110, hx110_0⟩ := Kd.at_int HR109_0.out x9_1 p110 q110
               cases e110
               replace hx110_0 := (HB.out.cell (World.block_lt_of_cell? w _ hx110_0)).trans hx110_0
               replace p110 := eq_true p110
               replace q110 := eq_true q110
               have p111 : 0 ≤ ((rd (rd_L1 l0_3 a2) x9_1) : Int) := of_decide_eq_true (by first | (with_reducible assumption) | assumption)
               have q111 : (rd (rd_L1 l0_3 a2) x9_1) < (l1.length : Int) := of_decide_eq_true (by first | (with_reducible assumption) | assumption)
               obtain ⟨ad111, e111, hx111_0⟩ := Kd.at_int HR1.out (rd (rd_L1 l0_3 a2) x9_1) p111 q111
               cases e111
               replace hx111_0 := (HB.out.cell (World.block_lt_of_cell? w _ hx111_0)).trans hx111_0
               replace p111 := eq_true p111
               replace q111 := eq_true q111
               have p112 : 0 ≤ (a3 : Int) := of_decide_eq_true (by first | (with_reducible assumption) | assumption)
               have q112 : a3 < (l0_3.length : Int) := of_decide_eq_true (by first | (with_reducible assumption) | assumption)
               obtain ⟨ad112, A112_0, c112_0, e112, hx112_0, hl112_0, hi112_0⟩ := at_L1 HR0_3.out a3 p112 q112
               obtain rfl : ad108 = ad112 := (by injection e112)
               replace hx112_0 := (HB.out.cell (World.block_lt_of_cell? w _ hx112_0)).trans hx112_0
               have HR112_0 := Aside0.mk hi112_0
               have HC112_0 := Aside0.mk hl112_0
               clear hi112_0 hl112_0
               replace p112 := eq_true p112
               replace q112 := eq_true q112
               have p113 : 0 ≤ (x9_1 : Int) := of_decide_eq_true (by first | (with_reducible assumption) | assumption)
               have q113 : x9_1 < ((rd_L1 l0_3 a3).length : Int) := of_decide_eq_true (by first | (with_reducible assumption) | assumption)
               obtain ⟨ad113, e113, hx113_0⟩ := Kd.at_int HR112_0.out x9_1 p113 q113
               cases e113
               replace hx113_0 := (HB.out.cell (World.block_lt_of_cell? w _ hx113_0)).trans hx113_0
               replace p113 := eq_true p113
               replace q113 := eq_true q113
               have p114 : 0 ≤ ((rd (rd_L1 l0_3 a3) x9_1) : Int) := of_decide_eq_true (by first | (with_reducible assumption) | assumption)
               have q114 : (rd (rd_L1 l0_3 a3) x9_1) < (l1.length : Int) := of_decide_eq_true (by first | (with_reducible assumption) | assumption)
               obtain ⟨ad114, e114, hx114_0⟩ := Kd.at_int HR1.out (rd (rd_L1 l0_3 a3) x9_1) p114 q114
               obtain rfl : ad111 = ad114 := (by injection e114)
               replace hx114_0 := (HB.out.cell (World.block_lt_of_cell? w _ hx114_0)).trans hx114_0
               replace p114 := eq_true p114
               replace q114 := eq_true q114
               go_wp2
               repeat (go_quiet (fail); try go_wp2)
               go_ret
               exact ⟨by first | rfl | (simp [errW_none, errW_some] <;> rfl) | (simp [*, errW_none, errW_some] <;> rfl), by repeat (first | (with_reducible first | exact HB.out | apply below_alloc | apply pw_below_drewN | apply below_drew1 | refine below_set ?_ GE80.out) | exact HB.out)⟩
             ·rw [if_neg c15] at H
              exact absurd H (by simp)
            ·rw [if_neg c14] at H
             exact absurd H (by simp)
           ·rw [if_neg c13] at H
            exact absurd H (by simp)
          ·rw [if_neg c12] at H
           exact absurd H (by simp)
         ·rw [if_neg c11] at H
          exact absurd H (by simp)
        ·rw [if_neg c10] at H
         exact absurd H (by simp)
       ·rw [if_neg c9] at H
        exact absurd H (by simp)
      ·rw [if_neg c8] at H
       exact absurd H (by simp)
     ·rw [if_neg c7] at H
      have c7b0 : decide (x9_1 < ((rd_L1 l0_3 a2).length : Int)) = false := decide_eq_false c7
      clear c7
      obtain rfl := Option.some.inj H
      simp only [Option.some.injEq, Prod.mk.injEq] at H
      obtain ⟨rfl⟩ := H
      have hcz19_0 : wr.cell? ⟨gp0, 0, none⟩ = some (.int .i64 a0_0) := (blk_cell BK80.out 0).trans rfl
      have hcz19_1 : wr.cell? ⟨gp0, 1, none⟩ = some (.int .i64 a0_1) := (blk_cell BK80.out 1).trans rfl
      have hcz19_2 : wr.cell? ⟨gp0, 2, none⟩ = some (.slice A0_2 l0_2.length c0_2) := (blk_cell BK80.out 2).trans rfl
      have hcz19_3 : wr.cell? ⟨gp0, 3, none⟩ = some (.slice A0_3 l0_3.length c0_3) := (blk_cell BK80.out 3).trans rfl
      have hfz19_0 := blk_frozen BK80.out 0
      have hfz19_1 := blk_frozen BK80.out 1
      have hfz19_2 := blk_frozen BK80.out 2
      have hfz19_3 := blk_frozen BK80.out 3
      have p108 : 0 ≤ (a2 : Int) := of_decide_eq_true (by first | (with_reducible assumption) | assumption)
      have q108 : a2 < (l0_3.length : Int) := of_decide_eq_true (by first | (with_reducible assumption) | assumption)
      obtain ⟨ad108, A108_0, c108_0, e108, hx108_0, hl108_0, hi108_0⟩ := at_L1 HR0_3.out a2 p108 q108
      cases e108
      replace hx108_0 := (HB.out.cell (World.block_lt_of_cell? w _ hx108_0)).trans hx108_0
      have HR108_0 := Aside0.mk hi108_0
      have HC108_0 := Aside0.mk hl108_0
      clear hi108_0 hl108_0
      replace p108 := eq_true p108
      replace q108 := eq_true q108
      go_wp2
      repeat (go_quiet (fail); try go_wp2)
      go_ret
      exact ⟨by first | rfl | (simp [errW_none, errW_some] <;> rfl) | (simp [*, errW_none, errW_some] <;> rfl), by repeat (first | (with_reducible first | exact HB.out | apply below_alloc | apply pw_below_drewN | apply below_drew1 | refine below_set ?_ GE80.out) | exact HB.out)⟩
    ·rw [if_neg c6] at H
     exact absurd H (by simp)
   ·rw [if_neg c5] at H
    exact absurd H (by simp)
end Go.Proofs.YtbamnonamdpooaaDoor.PB1
namespace Go.Proofs.YtbamnonamdpooaaDoor.PB1
open Go.RowKit Go.Proofs.YtbamnonamdpooaaDoorW.PrintWords Go.Proofs.YtbamnonamdpooaaDoorW.PrintLast Go.Proofs.YtbamnonamdpooaaDoorW.PrintMore
attribute [local go_sem] max2_int min2_int max_two min_two max_three min_three max_four min_four   -- for this text's walks alone
set_option linter.unusedVariables false
set_option linter.unusedSimpArgs false
/-! ### spec_l01Finer: function 109 -/
mutual
def spec_l01Finer.l0 : Nat → List Int → Int → List Int → List Int → Int → Int → Int → List Bool → List (List Int) → Option (List Int × Int)
 | 0, _, _, _, _, _, _, _, _, _ => none
 | k + 1, x1, x6, x7, x8, x9, x81000, x81001, x81002, x81003 => if x9 < x6 then (if 0 ≤ x9 then (if x9 < (x7.length : Int) then (spec_l01Finer.l1 k x1 x6 (x7.set (x9 : Int).toNat (-1)) x8 x9 0 x81000 x81001 x81002 x81003) else (none)) else (none)) else (some (x7, (x8.length : Int)))
def spec_l01Finer.l1 : Nat → List Int → Int → List Int → List Int → Int → Int → Int → Int → List Bool → List (List Int) → Option (List Int × Int)
 | 0, _, _, _, _, _, _, _, _, _, _ => none
 | k + 1, x1, x6, x7, x8, x9, x10, x81000, x81001, x81002, x81003 => if x10 < (x8.length : Int) then (if 0 ≤ x9 then (if x9 < (x7.length : Int) then (spec_l01Finer.j2 k x1 x6 x7 x8 x9 x10 (decide ((rd x7 x9) < 0)) x81000 x81001 x81002 x81003) else (none)) else (none)) else (spec_l01Finer.j2 k x1 x6 x7 x8 x9 x10 false x81000 x81001 x81002 x81003)
def spec_l01Finer.j2 : Nat → List Int → Int → List Int → List Int → Int → Int → Bool → Int → Int → List Bool → List (List Int) → Option (List Int × Int)
 | 0, _, _, _, _, _, _, _, _, _, _, _ => none
 | k + 1, x1, x6, x7, x8, x9, x10, x34, x81000, x81001, x81002, x81003 => if x34 = true then (if 0 ≤ x10 then (if x10 < (x8.length : Int) then (if 0 ≤ (rd x8 x10) then (if (rd x8 x10) < (x1.length : Int) then (if 0 ≤ x9 then (if x9 < (x1.length : Int) then (if (rd x1 (rd x8 x10)) = (rd x1 x9) then ((spec_l01Alike.f k x81000 x81001 x81002 x81003 x1 (rd x8 x10) x9).bind fun t127 => (if t127 = true then (if x9 < (x7.length : Int) then (spec_l01Finer.l1 k x1 x6 (x7.set (x9 : Int).toNat x10) x8 x9 (wrap64 (x10 + 1)) x81000 x81001 x81002 x81003) else (none)) else (spec_l01Finer.l1 k x1 x6 x7 x8 x9 (wrap64 (x10 + 1)) x81000 x81001 x81002 x81003))) else (spec_l01Finer.l1 k x1 x6 x7 x8 x9 (wrap64 (x10 + 1)) x81000 x81001 x81002 x81003)) else (none)) else (none)) else (none)) else (none)) else (none)) else (none)) else (if 0 ≤ x9 then (if x9 < (x7.length : Int) then (if (rd x7 x9) < 0 then (if x8.length < 17592186044416 then (spec_l01Finer.l0 k x1 x6 (x7.set (x9 : Int).toNat (x8.length : Int)) (x8 ++ [x9]) (wrap64 (x9 + 1)) x81000 x81001 x81002 x81003) else (none)) else (spec_l01Finer.l0 k x1 x6 x7 x8 (wrap64 (x9 + 1)) x81000 x81001 x81002 x81003)) else (none)) else (none))
end
def spec_l01Finer.f (k : Nat) (a0_0 : Int) (a0_1 : Int) (l0_2 : List Bool) (l0_3 : List (List Int)) (l1 : List Int) : Option (List Int × Int) := if 0 ≤ (l1.length : Int) then (if ((l1.length : Int) : Int).toNat ≤ 35184372088832 then (spec_l01Finer.l0 k l1 (l1.length : Int) (List.replicate ((l1.length : Int) : Int).toNat 0) (([] : List Int)) 0 a0_0 a0_1 l0_2 l0_3) else (none)) else (none)
theorem spec_l01Finer.mono_l : ∀ k, (∀ y0 y1 y2 y3 y4 y5 y6 y7 y8, LeO (spec_l01Finer.l0 k y0 y1 y2 y3 y4 y5 y6 y7 y8) (spec_l01Finer.l0 (k + 1) y0 y1 y2 y3 y4 y5 y6 y7 y8)) ∧ (∀ y0 y1 y2 y3 y4 y5 y6 y7 y8 y9, LeO (spec_l01Finer.l1 k y0 y1 y2 y3 y4 y5 y6 y7 y8 y9) (spec_l01Finer.l1 (k + 1) y0 y1 y2 y3 y4 y5 y6 y7 y8 y9)) ∧ (∀ y0 y1 y2 y3 y4 y5 y6 y7 y8 y9 y10, LeO (spec_l01Finer.j2 k y0 y1 y2 y3 y4 y5 y6 y7 y8 y9 y10) (spec_l01Finer.j2 (k + 1) y0 y1 y2 y3 y4 y5 y6 y7 y8 y9 y10))
 | 0 => ⟨fun _ _ _ _ _ _ _ _ _ r h => by simp [spec_l01Finer.l0] at h, fun _ _ _ _ _ _ _ _ _ _ r h => by simp [spec_l01Finer.l1] at h, fun _ _ _ _ _ _ _ _ _ _ _ r h => by simp [spec_l01Finer.j2] at h⟩
 | k + 1 => by
  obtain ⟨ih0, ih1, ih2⟩ := spec_l01Finer.mono_l k
  refine ⟨?_, ?_, ?_⟩
  ·intro y0 y1 y2 y3 y4 y5 y6 y7 y8
   unfold spec_l01Finer.l0
   repeat' first
   | (with_reducible exact ih0 _ _ _ _ _ _ _ _ _)
   | (with_reducible exact ih1 _ _ _ _ _ _ _ _ _ _)
   | (with_reducible exact ih2 _ _ _ _ _ _ _ _ _ _ _)
   | (with_reducible exact spec_l01Alike.mono _ _ _ _ _ _ _ _)
   | (with_reducible exact LeO.refl _)
   | (with_reducible exact LeO.none _)
   | (with_reducible refine LeO.ite ?_ ?_)
   | (with_reducible refine LeO.bind ?_ (fun _ => ?_))
   | exact ih0 _ _ _ _ _ _ _ _ _
   | exact ih1 _ _ _ _ _ _ _ _ _ _
   | exact ih2 _ _ _ _ _ _ _ _ _ _ _
   | exact spec_l01Alike.mono _ _ _ _ _ _ _ _
   | exact LeO.none _
   | refine LeO.ite ?_ ?_
   | refine LeO.bind ?_ (fun _ => ?_)
  ·intro y0 y1 y2 y3 y4 y5 y6 y7 y8 y9
   unfold spec_l01Finer.l1
   repeat' first
   | (with_reducible exact ih0 _ _ _ _ _ _ _ _ _)
   | (with_reducible exact ih1 _ _ _ _ _ _ _ _ _ _)
   | (with_reducible exact ih2 _ _ _ _ _ _ _ _ _ _ _)
   | (with_reducible exact spec_l01Alike.mono _ _ _ _ _ _ _ _)
   | (with_reducible exact LeO.refl _)
   | (with_reducible exact LeO.none _)
   | (with_reducible refine LeO.ite ?_ ?_)
   | (with_reducible refine LeO.bind ?_ (fun _ => ?_))
   | exact ih0 _ _ _ _ _ _ _ _ _
   | exact ih1 _ _ _ _ _ _ _ _ _ _
   | exact ih2 _ _ _ _ _ _ _ _ _ _ _
   | exact spec_l01Alike.mono _ _ _ _ _ _ _ _
   | exact LeO.none _
   | refine LeO.ite ?_ ?_
   | refine LeO.bind ?_ (fun _ => ?_)
  ·intro y0 y1 y2 y3 y4 y5 y6 y7 y8 y9 y10
   unfold spec_l01Finer.j2
   repeat' first
   | (with_reducible exact ih0 _ _ _ _ _ _ _ _ _)
   | (with_reducible exact ih1 _ _ _ _ _ _ _ _ _ _)
   | (with_reducible exact ih2 _ _ _ _ _ _ _ _ _ _ _)
   | (with_reducible exact spec_l01Alike.mono _ _ _ _ _ _ _ _)
   | (with_reducible exact LeO.refl _)
   | (with_reducible exact LeO.none _)
   | (with_reducible refine LeO.ite ?_ ?_)
   | (with_reducible refine LeO.bind ?_ (fun _ => ?_))
   | exact ih0 _ _ _ _ _ _ _ _ _
   | exact ih1 _ _ _ _ _ _ _ _ _ _
   | exact ih2 _ _ _ _ _ _ _ _ _ _ _
   | exact spec_l01Alike.mono _ _ _ _ _ _ _ _
   | exact LeO.none _
   | refine LeO.ite ?_ ?_
   | refine LeO.bind ?_ (fun _ => ?_)
theorem spec_l01Finer.mono : ∀ a0 a1 a2 a3 a4 k, LeO (spec_l01Finer.f k a0 a1 a2 a3 a4) (spec_l01Finer.f (k + 1) a0 a1 a2 a3 a4) := by
 intro a0 a1 a2 a3 a4 k
 obtain ⟨ih0, ih1, ih2⟩ := spec_l01Finer.mono_l k
 unfold spec_l01Finer.f
 repeat' first
   | (with_reducible exact ih0 _ _ _ _ _ _ _ _ _)
   | (with_reducible exact ih1 _ _ _ _ _ _ _ _ _ _)
   | (with_reducible exact ih2 _ _ _ _ _ _ _ _ _ _ _)
   | (with_reducible exact spec_l01Alike.mono _ _ _ _ _ _ _ _)
   | (with_reducible exact LeO.refl _)
   | (with_reducible exact LeO.none _)
   | (with_reducible refine LeO.ite ?_ ?_)
   | (with_reducible refine LeO.bind ?_ (fun _ => ?_))
   | exact ih0 _ _ _ _ _ _ _ _ _
   | exact ih1 _ _ _ _ _ _ _ _ _ _
   | exact ih2 _ _ _ _ _ _ _ _ _ _ _
   | exact spec_l01Alike.mono _ _ _ _ _ _ _ _
   | exact LeO.none _
   | refine LeO.ite ?_ ?_
   | refine LeO.bind ?_ (fun _ => ?_)
def spec_l01Finer.T11 : Bool × List (List Nat × List Nat) := (true, [([], []), ([], []), ([], []), ([1, 2], [1, 2]), ([3], [3]), ([0, 4], [0, 4]), ([5], [5]), ([], []), ([], []), ([7, 8], [7, 8]), ([9], [9]), ([6, 10], [6, 10]), ([11], [11]), ([12], [12]), ([12], [12]), ([12], [12]), ([12], [12]), ([15, 16, 12], [12, 15, 16]), ([17, 12], [12, 17]), ([12], [12]), ([13, 14, 18, 19, 12, 12], [12, 13, 14, 18, 19]), ([12, 20], [12, 20])])
def spec_l01Finer.B11 : List Nat := [0, 0, 0, 6, 14, 31, 63, 0, 0, 384, 896, 2047, 4095, 8191, 8191, 8191, 8191, 106495, 237567, 8191, 1048575, 2097151]
theorem spec_l01Finer.tab11 : rtab .any (opsOf Tryd.f109 11) = spec_l01Finer.T11 := by kernel_rfl
theorem spec_l01Finer.bits11 : waitsOk spec_l01Finer.T11.2 spec_l01Finer.B11 = true := by kernel_rfl
set_option maxHeartbeats 8000000 in
set_option maxRecDepth 100000 in
theorem spec_l01Finer.calls (k : Nat) (gp0 : Nat) (a0_0 : Int) (a0_1 : Int) (A0_2 : Option Addr) (c0_2 : Nat) (l0_2 : List Bool) (A0_3 : Option Addr) (c0_3 : Nat) (l0_3 : List (List Int)) (A1 : Option Addr) (c1 : Nat) (l1 : List Int) (r1 : List Int) (r2 : Int) (w : World) (hb0 : w.heap[gp0]? = some (.cells #[.int .i64 a0_0, .int .i64 a0_1, .slice A0_2 l0_2.length c0_2, .slice A0_3 l0_3.length c0_3] 29 (0, 0))) (hr0_2 : Kd.C Kd.bool w A0_2 l0_2.length l0_2) (hc0_2 : l0_2.length ≤ c0_2) (hr0_3 : Kd.C (Kd.slice 2 (Kd.int .i64)) w A0_3 l0_3.length l0_3) (hc0_3 : l0_3.length ≤ c0_3) (hr1 : Kd.C (Kd.int .i64) w A1 l1.length l1) (hc1 : l1.length ≤ c1) (h : spec_l01Finer.f k a0_0 a0_1 l0_2 l0_3 l1 = some (r1, r2)) :
  Calls Tryd.prog 109 #[.pointer (some ⟨gp0, 0, none⟩), .slice A1 l1.length c1] w fun e w' => ∃ v0_ : Value, e = .returned (.tuple #[v0_, .int .i64 r2]) ∧ Kd.R (Kd.int .i64) 2 w' w.heap.size (fun _ => True) v0_ r1 ∧ Below w.heap.size w w' := by
 have HR0_2 := Aside0.mk hr0_2
 have HC0_2 := Aside0.mk hc0_2
 clear hr0_2 hc0_2
 have HR0_3 := Aside0.mk hr0_3
 have HC0_3 := Aside0.mk hc0_3
 clear hr0_3 hc0_3
 have HR1 := Aside0.mk hr1
 have HC1 := Aside0.mk hc1
 clear hr1 hc1
 have BK80 := Aside0.mk hb0
 clear hb0
 have HB := Aside0.mk (Below.refl w.heap.size w)
 have H : (if 0 ≤ (l1.length : Int) then (if ((l1.length : Int) : Int).toNat ≤ 35184372088832 then (spec_l01Finer.l0 k l1 (l1.length : Int) (List.replicate ((l1.length : Int) : Int).toNat 0) (([] : List Int)) 0 a0_0 a0_1 l0_2 l0_3) else (none)) else (none)) = some (r1, r2) := h
 clear h
 by_cases c3 : 0 ≤ (l1.length : Int)
 ·rw [if_pos c3] at H
  have c3b0 := eq_true c3
  have c3b1 : decide (0 ≤ (l1.length : Int)) = true := decide_eq_true c3
  clear c3
  by_cases c4 : ((l1.length : Int) : Int).toNat ≤ 35184372088832
  ·rw [if_pos c4] at H
   have c4b0 := eq_true c4
   have c4b1 : decide (((l1.length : Int) : Int).toNat ≤ 35184372088832) = true := decide_eq_true c4
   clear c4
   obtain ⟨y115, hy115⟩ : ∃ y_ : List Int, y_ = (List.replicate ((l1.length : Int) : Int).toNat 0) := ⟨_, rfl⟩
   replace H : (spec_l01Finer.l0 k l1 (l1.length : Int) y115 (([] : List Int)) 0 a0_0 a0_1 l0_2 l0_3) = some (r1, r2) := by first | (rw [hy115]; with_reducible exact H) | (have H2_ := (Option.bind_some _ _).symm.trans H; rw [hy115]; with_reducible exact H2_) | (have H2_ := (Option.bind_some _ _).symm.trans H; with_reducible exact H2_) | with_reducible exact H | (rw [hy115]; exact H) | exact H
   have Ny115 := Aside0.mk hy115
   clear hy115
   obtain ⟨y118, hy118⟩ : ∃ y_ : List Int, y_ = (([] : List Int)) := ⟨_, rfl⟩
   replace H : (spec_l01Finer.l0 k l1 (l1.length : Int) y115 y118 0 a0_0 a0_1 l0_2 l0_3) = some (r1, r2) := by first | (rw [hy118]; with_reducible exact H) | (have H2_ := (Option.bind_some _ _).symm.trans H; rw [hy118]; with_reducible exact H2_) | (have H2_ := (Option.bind_some _ _).symm.trans H; with_reducible exact H2_) | with_reducible exact H | (rw [hy118]; exact H) | exact H
   have Ny118 := Aside0.mk hy118
   clear hy118
   have H' := Aside0.mk H
   clear H
   go_enter Tryd.func109, Tryd.ntmps109
   go_wp2_with (first | ((with_reducible refine gate_dst (N := 14) rfl ?_); refine Kd.R_make (Kd.int .i64) _ 2 rfl (N := 14) rfl 86 _ _ rfl (l1.length : Int) rfl rfl Tryd.underlying86 (.int .i64 0) 8 info2 rfl (by decide) (by omega) 0 (ok := fun _ => True) (okp := fun _ => True) rfl (fun _ hk => hk) trivial (of_decide_eq_true (by first | (with_reducible assumption) | assumption)) (Nat.le_trans (Nat.mul_le_mul_right _ (of_decide_eq_true (by first | (with_reducible assumption) | assumption) : (l1.length : Int).toNat ≤ 35184372088832)) (by omega)) (Below.refl _ _) (Nat.le_refl _) ?_; intro v116 w5 ho6 hb hg_ hnew_; clear hg_ hnew_; (first | rw [← Ny115.out] at ho6 | (simp only [Int.reduceToNat] at ho6; rw [← Ny115.out] at ho6)); have n0_ := Aside0.mk (Kd.R_lower ho6 (below_size (by repeat (first | (with_reducible first | exact HB.out | apply below_alloc | apply pw_below_drewN | apply below_drew1 | refine below_set ?_ GE80.out) | exact HB.out)))); have n1_ := Aside0.mk (blk_below (g := gp0) (o := .cells #[.int .i64 a0_0, .int .i64 a0_1, .slice A0_2 l0_2.length c0_2, .slice A0_3 l0_3.length c0_3] 29 (0, 0)) (by (with_reducible repeat (first | refine blk_drewN ?_ _ | refine blk_drew ?_ | refine blk_alloc ?_ _)); exact BK80.out) hb); have n2_ := Aside0.mk (below_step (by repeat (first | (with_reducible first | exact HB.out | apply below_alloc | apply pw_below_drewN | apply below_drew1 | refine below_set ?_ GE80.out) | exact HB.out)) hb); clear BK80; clear HB; have HO117 := n0_; have BK80 := n1_; have HB := n2_; clear n0_ n1_ n2_; clear hb ho6) | ((with_reducible refine gate_dst (N := 15) rfl ?_); refine Kd.R_lit (Kd.int .i64) _ 2 ?hg (N := 15) ?hd (xs := ([] : List Int)) (inner := []) (ok := fun _ => True) (okp := fun _ => True) ?hr ?hp (fun _ hk => hk) trivial (Below.refl _ _) (Nat.le_refl _) (by simp) ?_; (case hd => rfl); (case hg => rfl); (case hr => first | (go_simp; done) | (go_simp; rfl)); (case hp => exact (Reps.none _ _)); intro v119 w7 ho8 hb hg_ hnew_; clear hg_ hnew_; (first | rw [← Ny118.out] at ho8 | (simp only [Int.reduceToNat] at ho8; rw [← Ny118.out] at ho8)); have n0_ := Aside0.mk (Kd.R_elder' (by (with_reducible repeat (first | apply Kd.R_alloc | apply Kd.R_drewN | apply Kd.R_drew)); exact HO117.out) (Kd.R_base ho8) hb); have n1_ := Aside0.mk (Kd.R_lower (Kd.R_new' ho8 (Kd.R_lt (by (with_reducible repeat (first | apply Kd.R_alloc | apply Kd.R_drewN | apply Kd.R_drew)); exact HO117.out))) (below_size (by repeat (first | (with_reducible first | exact HB.out | apply below_alloc | apply pw_below_drewN | apply below_drew1 | refine below_set ?_ GE80.out) | exact HB.out)))); have n2_ := Aside0.mk (blk_below (g := gp0) (o := .cells #[.int .i64 a0_0, .int .i64 a0_1, .slice A0_2 l0_2.length c0_2, .slice A0_3 l0_3.length c0_3] 29 (0, 0)) (by (with_reducible repeat (first | refine blk_drewN ?_ _ | refine blk_drew ?_ | refine blk_alloc ?_ _)); exact BK80.out) hb); have n3_ := Aside0.mk (below_step (by repeat (first | (with_reducible first | exact HB.out | apply below_alloc | apply pw_below_drewN | apply below_drew1 | refine below_set ?_ GE80.out) | exact HB.out)) hb); clear HO117; clear BK80; clear HB; have HO117 := n0_; have HO120 := n1_; have BK80 := n2_; have HB := n3_; clear n0_ n1_ n2_ n3_; clear hb ho8))
   go_loopg [8, 9] k (fun kq v8 v9 w' => ∃ (x7_1 : List Int) (x8_1 : List Int) (x9_1 : Int) (x81000_1 : Int) (x81001_1 : Int), v9 = .int .i64 x9_1 ∧ Aside0 (spec_l01Finer.l0 kq l1 (l1.length : Int) x7_1 x8_1 x9_1 x81000_1 x81001_1 l0_2 l0_3 = some (r1, r2)) ∧ Aside0 (kq ≤ k) ∧ Aside0 (Kd.R (Kd.int .i64) 2 w' w.heap.size (fun k_ => some k_ ≠ (v8 : Value).ownBlock) v116 x7_1) ∧ Aside0 (Kd.R (Kd.int .i64) 2 w' w.heap.size (fun k_ => some k_ ≠ (v116 : Value).ownBlock) v8 x8_1) ∧ Aside0 (w'.heap[gp0]? = some (.cells #[.int .i64 x81000_1, .int .i64 x81001_1, (.slice A0_2 l0_2.length c0_2), (.slice A0_3 l0_3.length c0_3)] 29 (0, 0))) ∧ Aside0 (Below w.heap.size w w'))
   case atStart => exact ⟨(y115), (y118), (0), (a0_0), (a0_1), (by first | rfl | (simp; done) | (simp [*]; done) | (simp [wrap64]; done)), H', ⟨Nat.le_refl _⟩, ⟨by (with_reducible repeat (first | apply Kd.R_alloc | apply Kd.R_drewN | apply Kd.R_drew)); exact Kd.R_mono HO117.out (fun _ hk => hk.2)⟩, ⟨by (with_reducible repeat (first | apply Kd.R_alloc | apply Kd.R_drewN | apply Kd.R_drew)); exact Kd.R_mono HO120.out (fun _ hk => hk.2)⟩, ⟨by (with_reducible repeat (first | refine blk_drewN ?_ _ | refine blk_drew ?_ | refine blk_alloc ?_ _)); exact BK80.out⟩, ⟨by repeat (first | (with_reducible first | exact HB.out | apply below_alloc | apply pw_below_drewN | apply below_drew1 | refine below_set ?_ GE80.out) | exact HB.out)⟩⟩
   case round =>
    clear H'
    try clear c1
    try clear p2
    try clear c3
    try clear c3b0
    try clear c3b1
    try clear c4
    try clear c4b0
    try clear c4b1
    try clear p6
    obtain ⟨x7_1, x8_1, x9_1, x81000_1, x81001_1, rfl, HA, HK1, HO_7, HO_8, BK80, HB⟩ := hrel
    cases gk with
    | zero => exact absurd HA.out (by simp [spec_l01Finer.l0])
    | succ k1 =>
     have H := HA.out
     clear HA
     simp only [spec_l01Finer.l0] at H
     by_cases c9 : x9_1 < (l1.length : Int)
     ·rw [if_pos c9] at H
      have c9b0 : decide (x9_1 < (l1.length : Int)) = true := decide_eq_true c9
      clear c9
      by_cases c10 : 0 ≤ x9_1
      ·rw [if_pos c10] at H
       have c10b0 : decide (0 ≤ x9_1) = true := decide_eq_true c10
       clear c10
       by_cases c11 : x9_1 < (x7_1.length : Int)
       ·rw [if_pos c11] at H
        have c11b0 : decide (x9_1 < (x7_1.length : Int)) = true := decide_eq_true c11
        clear c11
        obtain ⟨y121, hy121⟩ : ∃ y_ : List Int, y_ = (x7_1.set (x9_1 : Int).toNat (-1)) := ⟨_, rfl⟩
        replace H : (spec_l01Finer.l1 k1 l1 (l1.length : Int) y121 x8_1 x9_1 0 x81000_1 x81001_1 l0_2 l0_3) = some (r1, r2) := by first | (rw [hy121]; with_reducible exact H) | (have H2_ := (Option.bind_some _ _).symm.trans H; rw [hy121]; with_reducible exact H2_) | (have H2_ := (Option.bind_some _ _).symm.trans H; with_reducible exact H2_) | with_reducible exact H | (rw [hy121]; exact H) | exact H
        have Ny121 := Aside0.mk hy121
        clear hy121
        have H' := Aside0.mk H
        clear H
        have p12 : 0 ≤ (x9_1 : Int) := of_decide_eq_true (by first | (with_reducible assumption) | assumption)
        have q12 : (x9_1 : Int) < ((x7_1.length : Int) : Int) := of_decide_eq_true (by first | (with_reducible assumption) | assumption)
        obtain ⟨go12, co12, eo12, gb12, gl12, cl12, HG12⟩ := Kd.R_form HO_7.out (by omega)
        (first | cases eo12 | (injection eo12 with ea_ en_ ec_; (first | subst ea_ | (injection ea_ with ea_; subst ea_)); subst ec_; clear en_))
        have GB12 := Aside0.mk gb12
        have GG12 := Aside0.mk HG12
        clear gb12 gl12 HG12
        obtain ⟨hx12_0, hf12_0⟩ := Kd.R_celln 0 HO_7.out (x9_1 : Int) p12 q12
        replace p12 := eq_true p12
        replace q12 := eq_true q12
        have HP13 := Kd.R_putg HO_7.out (x9_1 : Int) (-1)
        go_wp2_with (first | ((with_reducible refine gate_store (t := 2) (p := 23) rfl ?_); refine store_event (t := 2) (p := 23) (v := ?vo_w14) (w1 := (wr.setCell ⟨go12, (x9_1 : Int).toNat, none⟩ (.int .i64 (-1)))) ?hg ?ho ?hn ?hr ?_; (case ho => rfl); (case hg => rfl); (case hn => rfl); (case hr => first | (go_simp; done) | (go_simp; rfl)); intro w14 hw; have hg : wr.grownBy w14 (some go12) := (by rw [hw]; exact HP13.2); have hp_ : Kd.R (Kd.int .i64) 2 w14 w.heap.size (fun k_ => some k_ ≠ (u8 : Value).ownBlock) (.slice (some ⟨go12, 0, none⟩) x7_1.length co12) y121 := (by rw [hw, Ny121.out]; exact HP13.1); clear HP13; have n0_ := Aside0.mk (hp_); have n1_ := Aside0.mk (Kd.R_after (v := (.slice (some ⟨go12, 0, none⟩) x7_1.length co12)) (v1 := (.slice (some ⟨go12, 0, none⟩) x7_1.length co12)) (ok := (fun _ => True)) (by (with_reducible repeat (first | apply Kd.R_alloc | apply Kd.R_drewN | apply Kd.R_drew)); exact Kd.R_mono HO_8.out (fun _ hk => ⟨trivial, hk⟩)) hg (.inl rfl)); have n2_ := Aside0.mk (blk_grown (g := gp0) (o := .cells #[.int .i64 x81000_1, .int .i64 x81001_1, .slice A0_2 l0_2.length c0_2, .slice A0_3 l0_3.length c0_3] 29 (0, 0)) (by (with_reducible repeat (first | refine blk_drewN ?_ _ | refine blk_drew ?_ | refine blk_alloc ?_ _)); exact BK80.out) hg (Kd.R_ne HO_7.out BK80.out (by decide))); have n3_ := Aside0.mk ((by rw [hw]; exact below_set (HB.out) GB12.out : Below w.heap.size w w14)); clear HO_7; clear HO_8; clear BK80; clear HB; have HO_7 := n0_; have HO_8 := n1_; have BK80 := n2_; have HB := n3_; clear n0_ n1_ n2_ n3_; clear hg hw hp_))
        go_loopg [10] k1 (fun kq v10 w' => ∃ (x7_2 : List Int) (x10_2 : Int) (x81000_2 : Int) (x81001_2 : Int), v10 = .int .i64 x10_2 ∧ Aside0 (spec_l01Finer.l1 kq l1 (l1.length : Int) x7_2 x8_1 x9_1 x10_2 x81000_2 x81001_2 l0_2 l0_3 = some (r1, r2)) ∧ Aside0 (kq ≤ k1) ∧ Aside0 (Kd.R (Kd.int .i64) 2 w' w.heap.size (fun k_ => some k_ ≠ (u8 : Value).ownBlock) (.slice (some ⟨go12, 0, none⟩) x7_1.length co12) x7_2) ∧ Aside0 (Kd.R (Kd.int .i64) 2 w' w.heap.size (fun k_ => some k_ ≠ ((.slice (some ⟨go12, 0, none⟩) x7_1.length co12) : Value).ownBlock) u8 x8_1) ∧ Aside0 (w'.heap[gp0]? = some (.cells #[.int .i64 x81000_2, .int .i64 x81001_2, (.slice A0_2 l0_2.length c0_2), (.slice A0_3 l0_3.length c0_3)] 29 (0, 0))) ∧ Aside0 (Below w.heap.size w w'))
        case atStart => exact ⟨(y121), (0), (x81000_1), (x81001_1), (by first | rfl | (simp; done) | (simp [*]; done) | (simp [wrap64]; done)), H', ⟨Nat.le_refl _⟩, ⟨by (with_reducible repeat (first | apply Kd.R_alloc | apply Kd.R_drewN | apply Kd.R_drew)); exact HO_7.out⟩, ⟨by (with_reducible repeat (first | apply Kd.R_alloc | apply Kd.R_drewN | apply Kd.R_drew)); exact Kd.R_mono HO_8.out (fun _ hk => hk.2)⟩, ⟨by (with_reducible repeat (first | refine blk_drewN ?_ _ | refine blk_drew ?_ | refine blk_alloc ?_ _)); exact BK80.out⟩, ⟨by repeat (first | (with_reducible first | exact HB.out | apply below_alloc | apply pw_below_drewN | apply below_drew1 | refine below_set ?_ GE80.out) | exact HB.out)⟩⟩
        case round =>
         clear H'
         try clear c1
         try clear p1
         try clear q1
         try clear hx1
         try clear p2
         try clear c3
         try clear c3b0
         try clear c3b1
         try clear c4
         try clear c4b0
         try clear c4b1
         try clear p6
         try clear c9
         try clear c9b0
         try clear c10
         try clear c10b0
         try clear c11
         try clear c11b0
         try clear p12
         try clear q12
         try clear hx12
         try clear hf12
         try clear hx12_0
         try clear p12
         try clear p2
         try clear p6
         try clear q12
         obtain ⟨x7_2, x10_2, x81000_2, x81001_2, rfl, HA, HK2, HO_7, HO_8, BK80, HB⟩ := hrel
         have hl7_2 := (Kd.R_reads' HO_7.out).1
         rw [hl7_2] at HO_7
         (try simp only [hl7_2])
         (try simp only [hl7_2] at BK80)
         (try simp only [hl7_2] at HO_8)
         cases gk with
         | zero => exact absurd HA.out (by simp [spec_l01Finer.l1])
         | succ k2 =>
          have H := HA.out
          clear HA
          simp only [spec_l01Finer.l1] at H
          have HC15 := Aside0.mk H
          clear H
          go_upto_region 9 with (fail)
          go_cut [34] (fun v34 wc => ∃ (kq : Nat) (x34_14 : Bool), v34 = .bool x34_14 ∧ Aside0 (spec_l01Finer.j2 kq l1 (l1.length : Int) x7_2 x8_1 x9_1 x10_2 x34_14 x81000_2 x81001_2 l0_2 l0_3 = some (r1, r2)) ∧ Aside0 (kq ≤ k2) ∧ Aside0 (Kd.R (Kd.int .i64) 2 wc w.heap.size (fun k_ => some k_ ≠ (u8 : Value).ownBlock) (.slice (some ⟨go12, 0, none⟩) x7_2.length co12) x7_2) ∧ Aside0 (Kd.R (Kd.int .i64) 2 wc w.heap.size (fun k_ => some k_ ≠ ((.slice (some ⟨go12, 0, none⟩) x7_2.length co12) : Value).ownBlock) u8 x8_1) ∧ Aside0 (wc.heap[gp0]? = some (.cells #[.int .i64 x81000_2, .int .i64 x81001_2, (.slice A0_2 l0_2.length c0_2), (.slice A0_3 l0_3.length c0_3)] 29 (0, 0))) ∧ Aside0 (Below w.heap.size w wc))
          case first =>
           have H := HC15.out
           clear HC15
           by_cases c16 : x10_2 < (x8_1.length : Int)
           ·rw [if_pos c16] at H
            have c16b0 : decide (x10_2 < (x8_1.length : Int)) = true := decide_eq_true c16
            clear c16
            (first | rw [c16b0] | (simp only [i64_w, i32_w]; rw [c16b0]) | skip)
            by_cases c17 : 0 ≤ x9_1
            ·rw [if_pos c17] at H
             have c17b0 : decide (0 ≤ x9_1) = true := decide_eq_true c17
             clear c17
             by_cases c18 : x9_1 < (x7_2.length : Int)
             ·rw [if_pos c18] at H
              have c18b0 : decide (x9_1 < (x7_2.length : Int)) = true := decide_eq_true c18
              clear c18
              have H' := Aside0.mk H
              clear H
              obtain ⟨Ao19, co19, eo19⟩ := Kd.R_slice HO_8.out
              subst eo19
              have p122 : 0 ≤ (x9_1 : Int) := of_decide_eq_true (by first | (with_reducible assumption) | assumption)
              have q122 : x9_1 < (x7_2.length : Int) := of_decide_eq_true (by first | (with_reducible assumption) | assumption)
              obtain ⟨ad122, e122, hx122_0⟩ := Kd.at_int (Kd.R_reads' HO_7.out).2.2 x9_1 p122 q122
              obtain rfl : (⟨go12, 0, none⟩ : Addr) = ad122 := (by injection e122)
              (first | simp only [add_plain] at hx122_0 | simp only [add_at] at hx122_0 | simp only [Addr.add, Nat.zero_add] at hx122_0 | skip)
              replace p122 := eq_true p122
              replace q122 := eq_true q122
              go_wp2
              go_meet
              case rel => exact ⟨_, (decide ((rd x7_2 x9_1) < 0)), (by first | rfl | (simp; done) | (simp [*]; done) | (simp [wrap64]; done)), H', ⟨by have := HK1.out; have := HK2.out; first | omega | exact Nat.le_refl _⟩, ⟨by (try simp only [hl7_2]); (with_reducible repeat (first | apply Kd.R_alloc | apply Kd.R_drewN | apply Kd.R_drew)); exact HO_7.out⟩, ⟨by (try simp only [hl7_2]); (with_reducible repeat (first | apply Kd.R_alloc | apply Kd.R_drewN | apply Kd.R_drew)); exact HO_8.out⟩, ⟨by (try simp only [hl7_2]); (with_reducible repeat (first | refine blk_drewN ?_ _ | refine blk_drew ?_ | refine blk_alloc ?_ _)); exact BK80.out⟩, ⟨by repeat (first | (with_reducible first | exact HB.out | apply below_alloc | apply pw_below_drewN | apply below_drew1 | refine below_set ?_ GE80.out) | exact HB.out)⟩⟩
             ·rw [if_neg c18] at H
              exact absurd H (by simp)
            ·rw [if_neg c17] at H
             exact absurd H (by simp)
           ·rw [if_neg c16] at H
            have c16b0 : decide (x10_2 < (x8_1.length : Int)) = false := decide_eq_false c16
            clear c16
            (first | rw [c16b0] | (simp only [i64_w, i32_w]; rw [c16b0]) | skip)
            have H' := Aside0.mk H
            clear H
            obtain ⟨Ao20, co20, eo20⟩ := Kd.R_slice HO_8.out
            subst eo20
            go_wp2
            go_meet
            case rel => exact ⟨_, (false), (by first | rfl | (simp; done) | (simp [*]; done) | (simp [wrap64]; done)), H', ⟨by have := HK1.out; have := HK2.out; first | omega | exact Nat.le_refl _⟩, ⟨by (try simp only [hl7_2]); (with_reducible repeat (first | apply Kd.R_alloc | apply Kd.R_drewN | apply Kd.R_drew)); exact HO_7.out⟩, ⟨by (try simp only [hl7_2]); (with_reducible repeat (first | apply Kd.R_alloc | apply Kd.R_drewN | apply Kd.R_drew)); exact HO_8.out⟩, ⟨by (try simp only [hl7_2]); (with_reducible repeat (first | refine blk_drewN ?_ _ | refine blk_drew ?_ | refine blk_alloc ?_ _)); exact BK80.out⟩, ⟨by repeat (first | (with_reducible first | exact HB.out | apply below_alloc | apply pw_below_drewN | apply below_drew1 | refine below_set ?_ GE80.out) | exact HB.out)⟩⟩
          case rest =>
           clear HC15
           try clear c1
           try clear p1
           try clear q1
           try clear hx1
           try clear p2
           try clear c3
           try clear c3b0
           try clear c3b1
           try clear c4
           try clear c4b0
           try clear c4b1
           try clear p6
           try clear c9
           try clear c9b0
           try clear c10
           try clear c10b0
           try clear c11
           try clear c11b0
           try clear p12
           try clear q12
           try clear hx12
           try clear hf12
           try clear c16
           try clear c16b0
           try clear c17
           try clear c17b0
           try clear c18
           try clear c18b0
           try clear hx122_0
           try clear hx12_0
           try clear p1
           try clear p12
           try clear p122
           try clear p2
           try clear p6
           try clear q1
           try clear q12
           try clear q122
           obtain ⟨kq, x34_14, rfl, HA, HJ14, HO_7, HO_8, BK80, HB⟩ := hcut
           cases kq with
           | zero => exact absurd HA.out (by simp [spec_l01Finer.j2])
           | succ kj14 =>
            have H := HA.out
            clear HA
            simp only [spec_l01Finer.j2] at H
            by_cases c21 : x34_14 = true
            ·subst c21
             have H1 : (if 0 ≤ x10_2 then (if x10_2 < (x8_1.length : Int) then (if 0 ≤ (rd x8_1 x10_2) then (if (rd x8_1 x10_2) < (l1.length : Int) then (if 0 ≤ x9_1 then (if x9_1 < (l1.length : Int) then (if (rd l1 (rd x8_1 x10_2)) = (rd l1 x9_1) then ((spec_l01Alike.f kj14 x81000_2 x81001_2 l0_2 l0_3 l1 (rd x8_1 x10_2) x9_1).bind fun t127 => (if t127 = true then (if x9_1 < (x7_2.length : Int) then (spec_l01Finer.l1 kj14 l1 (l1.length : Int) (x7_2.set (x9_1 : Int).toNat x10_2) x8_1 x9_1 (wrap64 (x10_2 + 1)) x81000_2 x81001_2 l0_2 l0_3) else (none)) else (spec_l01Finer.l1 kj14 l1 (l1.length : Int) x7_2 x8_1 x9_1 (wrap64 (x10_2 + 1)) x81000_2 x81001_2 l0_2 l0_3))) else (spec_l01Finer.l1 kj14 l1 (l1.length : Int) x7_2 x8_1 x9_1 (wrap64 (x10_2 + 1)) x81000_2 x81001_2 l0_2 l0_3)) else (none)) else (none)) else (none)) else (none)) else (none)) else (none)) = some (r1, r2) := by rw [if_pos rfl] at H; exact H
             clear H
             have H := H1
             clear H1
             by_cases c22 : 0 ≤ x10_2
             ·rw [if_pos c22] at H
              have c22b0 : decide (0 ≤ x10_2) = true := decide_eq_true c22
              clear c22
              by_cases c23 : x10_2 < (x8_1.length : Int)
              ·rw [if_pos c23] at H
               have c23b0 : decide (x10_2 < (x8_1.length : Int)) = true := decide_eq_true c23
               clear c23
               by_cases c24 : 0 ≤ (rd x8_1 x10_2)
               ·rw [if_pos c24] at H
                have c24b0 : decide (0 ≤ (rd x8_1 x10_2)) = true := decide_eq_true c24
                clear c24
                by_cases c25 : (rd x8_1 x10_2) < (l1.length : Int)
                ·rw [if_pos c25] at H
                 have c25b0 : decide ((rd x8_1 x10_2) < (l1.length : Int)) = true := decide_eq_true c25
                 clear c25
                 by_cases c26 : 0 ≤ x9_1
                 ·rw [if_pos c26] at H
                  have c26b0 : decide (0 ≤ x9_1) = true := decide_eq_true c26
                  clear c26
                  by_cases c27 : x9_1 < (l1.length : Int)
                  ·rw [if_pos c27] at H
                   have c27b0 : decide (x9_1 < (l1.length : Int)) = true := decide_eq_true c27
                   clear c27
                   by_cases c28 : (rd l1 (rd x8_1 x10_2)) = (rd l1 x9_1)
                   ·rw [if_pos c28] at H
                    have c28b0 : ((rd l1 (rd x8_1 x10_2)) == (rd l1 x9_1)) = true := beq_iff_eq.mpr c28
                    have c28b1 : ((rd l1 (rd x8_1 x10_2)) != (rd l1 x9_1)) = false := bne_eq_false_iff_eq.mpr c28
                    clear c28
                    replace H := Option.bind_eq_some_iff.mp H
                    obtain ⟨t127, A290, H⟩ := H
                    replace H : (if t127 = true then (if x9_1 < (x7_2.length : Int) then (spec_l01Finer.l1 kj14 l1 (l1.length : Int) (x7_2.set (x9_1 : Int).toNat x10_2) x8_1 x9_1 (wrap64 (x10_2 + 1)) x81000_2 x81001_2 l0_2 l0_3) else (none)) else (spec_l01Finer.l1 kj14 l1 (l1.length : Int) x7_2 x8_1 x9_1 (wrap64 (x10_2 + 1)) x81000_2 x81001_2 l0_2 l0_3)) = some (r1, r2) := H
                    have A29 := Aside0.mk A290
                    clear A290
                    by_cases c30 : t127 = true
                    ·subst c30
                     have H1 : (if x9_1 < (x7_2.length : Int) then (spec_l01Finer.l1 kj14 l1 (l1.length : Int) (x7_2.set (x9_1 : Int).toNat x10_2) x8_1 x9_1 (wrap64 (x10_2 + 1)) x81000_2 x81001_2 l0_2 l0_3) else (none)) = some (r1, r2) := by rw [if_pos rfl] at H; exact H
                     clear H
                     have H := H1
                     clear H1
                     by_cases c31 : x9_1 < (x7_2.length : Int)
                     ·rw [if_pos c31] at H
                      have c31b0 : decide (x9_1 < (x7_2.length : Int)) = true := decide_eq_true c31
                      clear c31
                      obtain ⟨y128, hy128⟩ : ∃ y_ : List Int, y_ = (x7_2.set (x9_1 : Int).toNat x10_2) := ⟨_, rfl⟩
                      replace H : (spec_l01Finer.l1 kj14 l1 (l1.length : Int) y128 x8_1 x9_1 (wrap64 (x10_2 + 1)) x81000_2 x81001_2 l0_2 l0_3) = some (r1, r2) := by first | (rw [hy128]; with_reducible exact H) | (have H2_ := (Option.bind_some _ _).symm.trans H; rw [hy128]; with_reducible exact H2_) | (have H2_ := (Option.bind_some _ _).symm.trans H; with_reducible exact H2_) | with_reducible exact H | (rw [hy128]; exact H) | exact H
                      have Ny128 := Aside0.mk hy128
                      clear hy128
                      have H' := Aside0.mk H
                      clear H
                      try go_wp2
                      have n0_ := Aside0.mk (Kd.R_drew HO_7.out)
                      have n1_ := Aside0.mk (Kd.R_drew HO_8.out)
                      have n2_ := Aside0.mk (blk_drew BK80.out)
                      have n3_ := Aside0.mk (below_drew1 HB.out)
                      clear HO_7
                      clear HO_8
                      clear BK80
                      clear HB
                      have HO_7 := n0_
                      have HO_8 := n1_
                      have BK80 := n2_
                      have HB := n3_
                      clear n0_ n1_ n2_ n3_
                      obtain ⟨Ao34, co34, eo34⟩ := Kd.R_slice HO_8.out
                      (first | subst eo34 | (injection eo34 with f1_ f2_ f3_; have f4_ := f1_.symm; have f5_ := f3_.symm; clear f1_ f2_ f3_; subst f4_; subst f5_))
                      have p123 : 0 ≤ (x10_2 : Int) := of_decide_eq_true (by first | (with_reducible assumption) | assumption)
                      have q123 : x10_2 < (x8_1.length : Int) := of_decide_eq_true (by first | (with_reducible assumption) | assumption)
                      obtain ⟨ad123, e123, hx123_0⟩ := Kd.at_int (Kd.R_reads' HO_8.out).2.2 x10_2 p123 q123
                      cases e123
                      replace p123 := eq_true p123
                      replace q123 := eq_true q123
                      have p124 : 0 ≤ ((rd x8_1 x10_2) : Int) := of_decide_eq_true (by first | (with_reducible assumption) | assumption)
                      have q124 : (rd x8_1 x10_2) < (l1.length : Int) := of_decide_eq_true (by first | (with_reducible assumption) | assumption)
                      obtain ⟨ad124, e124, hx124_0⟩ := Kd.at_int HR1.out (rd x8_1 x10_2) p124 q124
                      have hw124_0 := hx124_0
                      cases e124
                      replace hx124_0 := (HB.out.cell (World.block_lt_of_cell? w _ hx124_0)).trans hx124_0
                      replace p124 := eq_true p124
                      replace q124 := eq_true q124
                      have p125 : 0 ≤ (x9_1 : Int) := of_decide_eq_true (by first | (with_reducible assumption) | assumption)
                      have q125 : x9_1 < (l1.length : Int) := of_decide_eq_true (by first | (with_reducible assumption) | assumption)
                      obtain ⟨ad125, e125, hx125_0⟩ := Kd.at_int HR1.out x9_1 p125 q125
                      have hw125_0 := hx125_0
                      obtain rfl : ad124 = ad125 := (by injection e125)
                      replace hx125_0 := (HB.out.cell (World.block_lt_of_cell? w _ hx125_0)).trans hx125_0
                      replace p125 := eq_true p125
                      replace q125 := eq_true q125
                      have p126 : 0 ≤ (x10_2 : Int) := of_decide_eq_true (by first | (with_reducible assumption) | assumption)
                      have q126 : x10_2 < (x8_1.length : Int) := of_decide_eq_true (by first | (with_reducible assumption) | assumption)
                      obtain ⟨ad126, e126, hx126_0⟩ := Kd.at_int (Kd.R_reads' HO_8.out).2.2 x10_2 p126 q126
                      obtain rfl : ad123 = ad126 := (by injection e126)
                      replace p126 := eq_true p126
                      replace q126 := eq_true q126
                      refine start_ (n := 22) (S := fun w' => w'.cell? (ad123.add (x10_2).toNat) = some (.int .i64 (rd x8_1 x10_2)) ∧ w'.cell? (ad124.add ((rd x8_1 x10_2)).toNat) = some (.int .i64 (rd l1 (rd x8_1 x10_2))) ∧ w'.cell? (ad124.add (x9_1).toNat) = some (.int .i64 (rd l1 x9_1)) ∧ w'.cell? (ad123.add (x10_2).toNat) = some (.int .i64 (rd x8_1 x10_2))) (ds := []) #[false, false, false, false, false, false, false, false, false, false, false, false, false, false, false, false, false, false, false, false, false, false] (by kernel_rfl) rfl rfl ⟨hx123_0, ((HB.out.cell (World.block_lt_of_cell? w _ hw124_0)).trans hw124_0), ((HB.out.cell (World.block_lt_of_cell? w _ hw125_0)).trans hw125_0), hx126_0⟩ (fun hHeld => ?_); refine with_tabW spec_l01Finer.tab11 spec_l01Finer.bits11 (fun HT_ HW_ => ?_)
                      generalize wc.drew = w33 at HO_7 HO_8 BK80 HB hx123_0 hx124_0 hx125_0 hx126_0 hHeld ⊢
                      refine pure_ (i := 0) (N := some 37) (v := ?_) (a' := ?_) #[true, false, false, false, false, false, false, false, false, false, false, false, false, false, false, false, false, false, false, false, false, false] rfl rfl (any_of HT_.out (by kernel_rfl)) (fun _ _ _ h => h) (Or.inl ⟨by rfl, ?_⟩) ?_ ?_
                      rotate_left
                      ·intro w'
                       go_simp
                       with_reducible rfl
                      rotate_left
                      ·simp only [Act.put, List.setIfInBounds_toArray, List.set_cons_zero, List.set_cons_succ, i64_w, i32_w]
                       rfl
                      refine pure_ (i := 1) (N := some 38) (v := ?_) (a' := ?_) #[true, true, false, false, false, false, false, false, false, false, false, false, false, false, false, false, false, false, false, false, false, false] rfl rfl (any_of HT_.out (by kernel_rfl)) (fun _ _ _ h => h) (Or.inl ⟨by rfl, ?_⟩) ?_ ?_
                      rotate_left
                      ·intro w'
                       go_simp
                       with_reducible rfl
                      rotate_left
                      ·simp only [Act.put, List.setIfInBounds_toArray, List.set_cons_zero, List.set_cons_succ, i64_w, i32_w]
                       rfl
                      refine pure_ (i := 2) (N := some 39) (v := ?_) (a' := ?_) #[true, true, true, false, false, false, false, false, false, false, false, false, false, false, false, false, false, false, false, false, false, false] rfl rfl (any_of HT_.out (by kernel_rfl)) (fun _ _ _ h => h) (Or.inl ⟨by rfl, ?_⟩) ?_ ?_
                      rotate_left
                      ·intro w'
                       go_simp
                       with_reducible rfl
                      rotate_left
                      ·simp only [Act.put, List.setIfInBounds_toArray, List.set_cons_zero, List.set_cons_succ, i64_w, i32_w]
                       rfl
                      refine pure_ (i := 3) (N := some 40) (v := ?_) (a' := ?_) #[true, true, true, true, false, false, false, false, false, false, false, false, false, false, false, false, false, false, false, false, false, false] rfl rfl (any_of HT_.out (by kernel_rfl)) (fun _ _ _ h => h) (Or.inl ⟨by rfl, ?_⟩) ?_ ?_
                      rotate_left
                      ·intro w'
                       go_simp
                       with_reducible rfl
                      rotate_left
                      ·simp only [Act.put, List.setIfInBounds_toArray, List.set_cons_zero, List.set_cons_succ, i64_w, i32_w]
                       rfl
                      refine pure_ (i := 7) (N := some 44) (v := ?_) (a' := ?_) #[true, true, true, true, false, false, false, true, false, false, false, false, false, false, false, false, false, false, false, false, false, false] rfl rfl (any_of HT_.out (by kernel_rfl)) (fun _ _ _ h => h) (Or.inl ⟨by rfl, ?_⟩) ?_ ?_
                      rotate_left
                      ·intro w'
                       go_simp
                       with_reducible rfl
                      rotate_left
                      ·simp only [Act.put, List.setIfInBounds_toArray, List.set_cons_zero, List.set_cons_succ, i64_w, i32_w]
                       rfl
                      refine pure_ (i := 8) (N := some 45) (v := ?_) (a' := ?_) #[true, true, true, true, false, false, false, true, true, false, false, false, false, false, false, false, false, false, false, false, false, false] rfl rfl (any_of HT_.out (by kernel_rfl)) (fun _ _ _ h => h) (Or.inl ⟨by rfl, ?_⟩) ?_ ?_
                      rotate_left
                      ·intro w'
                       go_simp
                       with_reducible rfl
                      rotate_left
                      ·simp only [Act.put, List.setIfInBounds_toArray, List.set_cons_zero, List.set_cons_succ, i64_w, i32_w]
                       rfl
                      refine pure_ (i := 9) (N := some 46) (v := ?_) (a' := ?_) #[true, true, true, true, false, false, false, true, true, true, false, false, false, false, false, false, false, false, false, false, false, false] rfl rfl (any_of HT_.out (by kernel_rfl)) (fun _ _ _ h => h) (Or.inl ⟨by rfl, ?_⟩) ?_ ?_
                      rotate_left
                      ·intro w'
                       go_simp
                       with_reducible rfl
                      rotate_left
                      ·simp only [Act.put, List.setIfInBounds_toArray, List.set_cons_zero, List.set_cons_succ, i64_w, i32_w]
                       rfl
                      refine take_ (i := 4) (N := some 41) (v := ?_) (a' := ?_) #[true, true, true, true, true, false, false, true, true, true, false, false, false, false, false, false, false, false, false, false, false, false] rfl rfl (take_ofW HT_.out HW_.out (by kernel_rfl)) (fun _ _ _ h => h) (Or.inl ⟨by rfl, ?_⟩) hHeld ?_ ?_
                      rotate_left
                      ·rintro w' ⟨s0, s1, s2, s3⟩
                       go_simp
                       with_reducible rfl
                      rotate_left
                      ·simp only [Act.put, List.setIfInBounds_toArray, List.set_cons_zero, List.set_cons_succ, i64_w, i32_w]
                       rfl
                      refine pure_ (i := 5) (N := some 42) (v := ?_) (a' := ?_) #[true, true, true, true, true, true, false, true, true, true, false, false, false, false, false, false, false, false, false, false, false, false] rfl rfl (any_of HT_.out (by kernel_rfl)) (fun _ _ _ h => h) (Or.inl ⟨by rfl, ?_⟩) ?_ ?_
                      rotate_left
                      ·intro w'
                       go_simp
                       with_reducible rfl
                      rotate_left
                      ·simp only [Act.put, List.setIfInBounds_toArray, List.set_cons_zero, List.set_cons_succ, i64_w, i32_w]
                       rfl
                      refine take_ (i := 6) (N := some 43) (v := ?_) (a' := ?_) #[true, true, true, true, true, true, true, true, true, true, false, false, false, false, false, false, false, false, false, false, false, false] rfl rfl (take_ofW HT_.out HW_.out (by kernel_rfl)) (fun _ _ _ h => h) (Or.inl ⟨by rfl, ?_⟩) hHeld ?_ ?_
                      rotate_left
                      ·rintro w' ⟨s0, s1, s2, s3⟩
                       go_simp
                       with_reducible rfl
                      rotate_left
                      ·simp only [Act.put, List.setIfInBounds_toArray, List.set_cons_zero, List.set_cons_succ, i64_w, i32_w]
                       rfl
                      refine take_ (i := 10) (N := some 47) (v := ?_) (a' := ?_) #[true, true, true, true, true, true, true, true, true, true, true, false, false, false, false, false, false, false, false, false, false, false] rfl rfl (take_ofW HT_.out HW_.out (by kernel_rfl)) (fun _ _ _ h => h) (Or.inl ⟨by rfl, ?_⟩) hHeld ?_ ?_
                      rotate_left
                      ·rintro w' ⟨s0, s1, s2, s3⟩
                       go_simp
                       with_reducible rfl
                      rotate_left
                      ·simp only [Act.put, List.setIfInBounds_toArray, List.set_cons_zero, List.set_cons_succ, i64_w, i32_w]
                       rfl
                      refine pure_ (i := 11) (N := some 48) (v := ?_) (a' := ?_) #[true, true, true, true, true, true, true, true, true, true, true, true, false, false, false, false, false, false, false, false, false, false] rfl rfl (any_of HT_.out (by kernel_rfl)) (fun _ _ _ h => h) (Or.inl ⟨by rfl, ?_⟩) ?_ ?_
                      rotate_left
                      ·intro w'
                       go_simp
                       with_reducible rfl
                      rotate_left
                      ·simp only [Act.put, List.setIfInBounds_toArray, List.set_cons_zero, List.set_cons_succ, i64_w, i32_w]
                       rfl
                      refine pure_ (i := 12) (N := some 49) (v := ?_) (a' := ?_) #[true, true, true, true, true, true, true, true, true, true, true, true, true, false, false, false, false, false, false, false, false, false] rfl rfl (any_of HT_.out (by kernel_rfl)) (fun _ _ _ h => h) (Or.inl ⟨by rfl, ?_⟩) ?_ ?_
                      rotate_left
                      ·intro w'
                       go_simp
                       with_reducible rfl
                      rotate_left
                      ·simp only [Act.put, List.setIfInBounds_toArray, List.set_cons_zero, List.set_cons_succ, i64_w, i32_w]
                       rfl
                      refine pure_ (i := 13) (N := some 50) (v := ?_) (a' := ?_) #[true, true, true, true, true, true, true, true, true, true, true, true, true, true, false, false, false, false, false, false, false, false] rfl rfl (any_of HT_.out (by kernel_rfl)) (fun _ _ _ h => h) (Or.inl ⟨by rfl, ?_⟩) ?_ ?_
                      rotate_left
                      ·intro w'
                       go_simp
                       with_reducible rfl
                      rotate_left
                      ·simp only [Act.put, List.setIfInBounds_toArray, List.set_cons_zero, List.set_cons_succ, i64_w, i32_w]
                       rfl
                      refine pure_ (i := 14) (N := some 51) (v := ?_) (a' := ?_) #[true, true, true, true, true, true, true, true, true, true, true, true, true, true, true, false, false, false, false, false, false, false] rfl rfl (any_of HT_.out (by kernel_rfl)) (fun _ _ _ h => h) (Or.inl ⟨by rfl, ?_⟩) ?_ ?_
                      rotate_left
                      ·intro w'
                       go_simp
                       with_reducible rfl
                      rotate_left
                      ·simp only [Act.put, List.setIfInBounds_toArray, List.set_cons_zero, List.set_cons_succ, i64_w, i32_w]
                       rfl
                      refine pure_ (i := 15) (N := some 52) (v := ?_) (a' := ?_) #[true, true, true, true, true, true, true, true, true, true, true, true, true, true, true, true, false, false, false, false, false, false] rfl rfl (any_of HT_.out (by kernel_rfl)) (fun _ _ _ h => h) (Or.inl ⟨by rfl, ?_⟩) ?_ ?_
                      rotate_left
                      ·intro w'
                       go_simp
                       with_reducible rfl
                      rotate_left
                      ·simp only [Act.put, List.setIfInBounds_toArray, List.set_cons_zero, List.set_cons_succ, i64_w, i32_w]
                       rfl
                      refine pure_ (i := 16) (N := some 53) (v := ?_) (a' := ?_) #[true, true, true, true, true, true, true, true, true, true, true, true, true, true, true, true, true, false, false, false, false, false] rfl rfl (any_of HT_.out (by kernel_rfl)) (fun _ _ _ h => h) (Or.inl ⟨by rfl, ?_⟩) ?_ ?_
                      rotate_left
                      ·intro w'
                       go_simp
                       with_reducible rfl
                      rotate_left
                      ·simp only [Act.put, List.setIfInBounds_toArray, List.set_cons_zero, List.set_cons_succ, i64_w, i32_w]
                       rfl
                      refine pure_ (i := 17) (N := some 54) (v := ?_) (a' := ?_) #[true, true, true, true, true, true, true, true, true, true, true, true, true, true, true, true, true, true, false, false, false, false] rfl rfl (any_of HT_.out (by kernel_rfl)) (fun _ _ _ h => h) (Or.inl ⟨by rfl, ?_⟩) ?_ ?_
                      rotate_left
                      ·intro w'
                       go_simp
                       with_reducible rfl
                      rotate_left
                      ·simp only [Act.put, List.setIfInBounds_toArray, List.set_cons_zero, List.set_cons_succ, i64_w, i32_w]
                       rfl
                      refine pure_ (i := 19) (N := some 56) (v := ?_) (a' := ?_) #[true, true, true, true, true, true, true, true, true, true, true, true, true, true, true, true, true, true, false, true, false, false] rfl rfl (any_of HT_.out (by kernel_rfl)) (fun _ _ _ h => h) (Or.inl ⟨by rfl, ?_⟩) ?_ ?_
                      rotate_left
                      ·intro w'
                       go_simp
                       with_reducible rfl
                      rotate_left
                      ·simp only [Act.put, List.setIfInBounds_toArray, List.set_cons_zero, List.set_cons_succ, i64_w, i32_w]
                       rfl
                      refine take_ (i := 18) (N := some 55) (v := ?_) (a' := ?_) #[true, true, true, true, true, true, true, true, true, true, true, true, true, true, true, true, true, true, true, true, false, false] rfl rfl (take_ofW HT_.out HW_.out (by kernel_rfl)) (fun _ _ _ h => h) (Or.inl ⟨by rfl, ?_⟩) hHeld ?_ ?_
                      rotate_left
                      ·rintro w' ⟨s0, s1, s2, s3⟩
                       go_simp
                       with_reducible rfl
                      rotate_left
                      ·simp only [Act.put, List.setIfInBounds_toArray, List.set_cons_zero, List.set_cons_succ, i64_w, i32_w]
                       rfl
                      refine one_ (i := 20) (N := some 57) #[true, true, true, true, true, true, true, true, true, true, true, true, true, true, true, true, true, true, true, true, true, false] rfl rfl (one_of HT_.out (by kernel_rfl)) (by decide) (fun K hK => ?_)
                      refine goes_ Tryd.func158 (by kernel_rfl) rfl #[.pointer (some ⟨gp0, 0, none⟩), .slice (some ad124) l1.length c1, .int .i64 (rd x8_1 x10_2), .int .i64 x9_1] (by rfl) rfl rfl (by (try simp only [List.map_toArray, List.map_cons, List.map_nil]); first | done | rfl | (simp only [List.length_drop, List.length_take]; rfl)) ?_
                      with_reducible refine (spec_l01Alike.calls kj14 gp0 x81000_2 x81001_2 A0_2 c0_2 l0_2 A0_3 c0_3 l0_3 _ _ l1 (rd x8_1 x10_2) x9_1 true _ ?side1 ?side2 ?side3 ?side4 ?side5 ?side6 ?side7 A29.out).mono ?_
                      (case side1 => (with_reducible repeat (first | refine blk_drewN ?_ _ | refine blk_drew ?_ | refine blk_alloc ?_ _)); exact BK80.out)
                      (case side2 => repeat (first | exact (Kd.C_below HR0_2.out HB.out) | (with_reducible refine Kd.C_alloc ?_ _) | (with_reducible refine Kd.C_drewN ?_ _) | (with_reducible refine Kd.C_drew ?_)))
                      (case side3 => exact HC0_2.out)
                      (case side4 => repeat (first | exact (Kd.C_below HR0_3.out HB.out) | (with_reducible refine Kd.C_alloc ?_ _) | (with_reducible refine Kd.C_drewN ?_ _) | (with_reducible refine Kd.C_drew ?_)))
                      (case side5 => exact HC0_3.out)
                      (case side6 => repeat (first | exact (Kd.C_below HR1.out HB.out) | (with_reducible refine Kd.C_alloc ?_ _) | (with_reducible refine Kd.C_drewN ?_ _) | (with_reducible refine Kd.C_drew ?_)))
                      (case side7 => exact HC1.out)
                      rintro e w35 ⟨rfl, hb⟩
                      have HS0_ := (hb.cell (World.block_lt_of_cell? _ _ (hHeld.1))).trans (hHeld.1)
                      have HS3_ := (hb.cell (World.block_lt_of_cell? _ _ (hHeld.2.2.2))).trans (hHeld.2.2.2)
                      refine ⟨_, rfl, ?_⟩
                      have n0_ := Aside0.mk (Kd.R_below (by (with_reducible repeat (first | apply Kd.R_alloc | apply Kd.R_drewN | apply Kd.R_drew)); exact HO_7.out) hb)
                      have n1_ := Aside0.mk (Kd.R_below (by (with_reducible repeat (first | apply Kd.R_alloc | apply Kd.R_drewN | apply Kd.R_drew)); exact HO_8.out) hb)
                      have n2_ := Aside0.mk (blk_below (g := gp0) (o := .cells #[.int .i64 x81000_2, .int .i64 x81001_2, .slice A0_2 l0_2.length c0_2, .slice A0_3 l0_3.length c0_3] 29 (0, 0)) (by (with_reducible repeat (first | refine blk_drewN ?_ _ | refine blk_drew ?_ | refine blk_alloc ?_ _)); exact BK80.out) hb)
                      have n3_ := Aside0.mk (below_step (by repeat (first | (with_reducible first | exact HB.out | apply below_alloc | apply pw_below_drewN | apply below_drew1 | refine below_set ?_ GE80.out) | exact HB.out)) hb)
                      clear HO_7
                      clear HO_8
                      clear BK80
                      clear HB
                      have HO_7 := n0_
                      have HO_8 := n1_
                      have BK80 := n2_
                      have HB := n3_
                      clear n0_ n1_ n2_ n3_
                      (try clear hb)
                      (try clear hb2)
                      (try clear hk)
                      (try clear hi)
                      refine hK.out _ _ ⟨HS0_, ((HB.out.cell (World.block_lt_of_cell? w _ hw124_0)).trans hw124_0), ((HB.out.cell (World.block_lt_of_cell? w _ hw125_0)).trans hw125_0), HS3_⟩ (fun hHeld => ?_)
                      clear hK K
                      refine norm_ (a' := ?_) ?_ ?_
                      rotate_left
                      ·show Act.put _ (some 57) _ = _
                       simp only [Act.put, List.setIfInBounds_toArray, List.set_cons_zero, List.set_cons_succ, i64_w, i32_w]
                       rfl
                      refine pure_ (i := 21) (N := some 58) (v := ?_) (a' := ?_) #[true, true, true, true, true, true, true, true, true, true, true, true, true, true, true, true, true, true, true, true, true, true] rfl rfl (any_of HT_.out (by kernel_rfl)) (fun _ _ _ h => h) (Or.inl ⟨by rfl, ?_⟩) ?_ ?_
                      rotate_left
                      ·intro w'
                       go_simp
                       with_reducible rfl
                      rotate_left
                      ·simp only [Act.put, List.setIfInBounds_toArray, List.set_cons_zero, List.set_cons_succ, i64_w, i32_w]
                       rfl
                      refine done_ (done_of HT_.out (by kernel_rfl)) ?_
                      have p32 : 0 ≤ (x9_1 : Int) := of_decide_eq_true (by first | (with_reducible assumption) | assumption)
                      have q32 : (x9_1 : Int) < ((x7_2.length : Int) : Int) := of_decide_eq_true (by first | (with_reducible assumption) | assumption)
                      obtain ⟨hx32_0, hf32_0⟩ := Kd.R_celln 0 HO_7.out (x9_1 : Int) p32 q32
                      replace p32 := eq_true p32
                      replace q32 := eq_true q32
                      obtain ⟨hy36_, hz36_⟩ := Kd.R_celln 0 HO_7.out (x9_1 : Int) (of_decide_eq_true (by first | (with_reducible assumption) | assumption)) (of_decide_eq_true (by first | (with_reducible assumption) | assumption))
                      have HP36 := Kd.R_putg HO_7.out (x9_1 : Int) x10_2
                      try go_wp2_with (first | ((with_reducible refine gate_store (t := 2) (p := 62) rfl ?_); refine store_event (t := 2) (p := 62) (v := ?vo_w37) (w1 := (w35.setCell ⟨go12, (x9_1 : Int).toNat, none⟩ (.int .i64 x10_2))) ?hg ?ho ?hn ?hr ?_; (case ho => rfl); (case hg => rfl); (case hn => rfl); (case hr => first | (go_simp; done) | (go_simp; rfl)); intro w37 hw; have hg : w35.grownBy w37 (some go12) := (by rw [hw]; exact HP36.2); have hp_ : Kd.R (Kd.int .i64) 2 w37 w.heap.size (fun k_ => some k_ ≠ (.slice (some ad123) x8_1.length co34 : Value).ownBlock) (.slice (some ⟨go12, 0, none⟩) x7_2.length co12) y128 := (by rw [hw, Ny128.out]; exact HP36.1); clear HP36; have n0_ := Aside0.mk (hp_); have n1_ := Aside0.mk (Kd.R_after (v := (.slice (some ⟨go12, 0, none⟩) x7_2.length co12)) (v1 := (.slice (some ⟨go12, 0, none⟩) x7_2.length co12)) (ok := (fun _ => True)) (by (with_reducible repeat (first | apply Kd.R_alloc | apply Kd.R_drewN | apply Kd.R_drew)); exact Kd.R_mono HO_8.out (fun _ hk => ⟨trivial, hk⟩)) hg (.inl rfl)); have n2_ := Aside0.mk (blk_grown (g := gp0) (o := .cells #[.int .i64 x81000_2, .int .i64 x81001_2, .slice A0_2 l0_2.length c0_2, .slice A0_3 l0_3.length c0_3] 29 (0, 0)) (by (with_reducible repeat (first | refine blk_drewN ?_ _ | refine blk_drew ?_ | refine blk_alloc ?_ _)); exact BK80.out) hg (Kd.R_ne HO_7.out BK80.out (by decide))); have n3_ := Aside0.mk ((by rw [hw]; exact below_set (HB.out) GB12.out : Below w.heap.size w w37)); clear HO_7; clear HO_8; clear BK80; clear HB; have HO_7 := n0_; have HO_8 := n1_; have BK80 := n2_; have HB := n3_; clear n0_ n1_ n2_ n3_; clear hg hw hp_))
                      (try simp only [← hl7_2])
                      go_roundg kj14
                      case measure => have := HK1.out; have := HK2.out; have := HJ14.out; omega
                      case rel => exact ⟨(y128), (wrap64 (x10_2 + 1)), (x81000_2), (x81001_2), (by first | rfl | (simp; done) | (simp [*]; done) | (simp [wrap64]; done)), H', ⟨by have := HK1.out; have := HK2.out; have := HJ14.out; omega⟩, ⟨by (try simp only [hl7_2]); (with_reducible repeat (first | apply Kd.R_alloc | apply Kd.R_drewN | apply Kd.R_drew)); exact HO_7.out⟩, ⟨by (try simp only [hl7_2]); (with_reducible repeat (first | apply Kd.R_alloc | apply Kd.R_drewN | apply Kd.R_drew)); exact Kd.R_mono HO_8.out (fun _ hk => hk.2)⟩, ⟨by (try simp only [hl7_2]); (with_reducible repeat (first | refine blk_drewN ?_ _ | refine blk_drew ?_ | refine blk_alloc ?_ _)); exact BK80.out⟩, ⟨by repeat (first | (with_reducible first | exact HB.out | apply below_alloc | apply pw_below_drewN | apply below_drew1 | refine below_set ?_ GE80.out) | exact HB.out)⟩⟩
                     ·rw [if_neg c31] at H
                      exact absurd H (by simp)
                    ·replace c30 := Bool.eq_false_iff.mpr c30
                     subst c30
                     have H1 : (spec_l01Finer.l1 kj14 l1 (l1.length : Int) x7_2 x8_1 x9_1 (wrap64 (x10_2 + 1)) x81000_2 x81001_2 l0_2 l0_3) = some (r1, r2) := by rw [if_neg (show ¬ (false = true) by decide)] at H; exact H
                     clear H
                     have H := H1
                     clear H1
                     have H' := Aside0.mk H
                     clear H
                     try go_wp2
                     have n0_ := Aside0.mk (Kd.R_drew HO_7.out)
                     have n1_ := Aside0.mk (Kd.R_drew HO_8.out)
                     have n2_ := Aside0.mk (blk_drew BK80.out)
                     have n3_ := Aside0.mk (below_drew1 HB.out)
                     clear HO_7
                     clear HO_8
                     clear BK80
                     clear HB
                     have HO_7 := n0_
                     have HO_8 := n1_
                     have BK80 := n2_
                     have HB := n3_
                     clear n0_ n1_ n2_ n3_
                     obtain ⟨Ao39, co39, eo39⟩ := Kd.R_slice HO_8.out
                     (first | subst eo39 | (injection eo39 with f1_ f2_ f3_; have f4_ := f1_.symm; have f5_ := f3_.symm; clear f1_ f2_ f3_; subst f4_; subst f5_))
                     have p123 : 0 ≤ (x10_2 : Int) := of_decide_eq_true (by first | (with_reducible assumption) | assumption)
                     have q123 : x10_2 < (x8_1.length : Int) := of_decide_eq_true (by first | (with_reducible assumption) | assumption)
                     obtain ⟨ad123, e123, hx123_0⟩ := Kd.at_int (Kd.R_reads' HO_8.out).2.2 x10_2 p123 q123
                     cases e123
                     replace p123 := eq_true p123
                     replace q123 := eq_true q123
                     have p124 : 0 ≤ ((rd x8_1 x10_2) : Int) := of_decide_eq_true (by first | (with_reducible assumption) | assumption)
                     have q124 : (rd x8_1 x10_2) < (l1.length : Int) := of_decide_eq_true (by first | (with_reducible assumption) | assumption)
                     obtain ⟨ad124, e124, hx124_0⟩ := Kd.at_int HR1.out (rd x8_1 x10_2) p124 q124
                     have hw124_0 := hx124_0
                     cases e124
                     replace hx124_0 := (HB.out.cell (World.block_lt_of_cell? w _ hx124_0)).trans hx124_0
                     replace p124 := eq_true p124
                     replace q124 := eq_true q124
                     have p125 : 0 ≤ (x9_1 : Int) := of_decide_eq_true (by first | (with_reducible assumption) | assumption)
                     have q125 : x9_1 < (l1.length : Int) := of_decide_eq_true (by first | (with_reducible assumption) | assumption)
                     obtain ⟨ad125, e125, hx125_0⟩ := Kd.at_int HR1.out x9_1 p125 q125
                     have hw125_0 := hx125_0
                     obtain rfl : ad124 = ad125 := (by injection e125)
                     replace hx125_0 := (HB.out.cell (World.block_lt_of_cell? w _ hx125_0)).trans hx125_0
                     replace p125 := eq_true p125
                     replace q125 := eq_true q125
                     have p126 : 0 ≤ (x10_2 : Int) := of_decide_eq_true (by first | (with_reducible assumption) | assumption)
                     have q126 : x10_2 < (x8_1.length : Int) := of_decide_eq_true (by first | (with_reducible assumption) | assumption)
                     obtain ⟨ad126, e126, hx126_0⟩ := Kd.at_int (Kd.R_reads' HO_8.out).2.2 x10_2 p126 q126
                     obtain rfl : ad123 = ad126 := (by injection e126)
                     replace p126 := eq_true p126
                     replace q126 := eq_true q126
                     refine start_ (n := 22) (S := fun w' => w'.cell? (ad123.add (x10_2).toNat) = some (.int .i64 (rd x8_1 x10_2)) ∧ w'.cell? (ad124.add ((rd x8_1 x10_2)).toNat) = some (.int .i64 (rd l1 (rd x8_1 x10_2))) ∧ w'.cell? (ad124.add (x9_1).toNat) = some (.int .i64 (rd l1 x9_1)) ∧ w'.cell? (ad123.add (x10_2).toNat) = some (.int .i64 (rd x8_1 x10_2))) (ds := []) #[false, false, false, false, false, false, false, false, false, false, false, false, false, false, false, false, false, false, false, false, false, false] (by kernel_rfl) rfl rfl ⟨hx123_0, ((HB.out.cell (World.block_lt_of_cell? w _ hw124_0)).trans hw124_0), ((HB.out.cell (World.block_lt_of_cell? w _ hw125_0)).trans hw125_0), hx126_0⟩ (fun hHeld => ?_); refine with_tabW spec_l01Finer.tab11 spec_l01Finer.bits11 (fun HT_ HW_ => ?_)
                     generalize wc.drew = w38 at HO_7 HO_8 BK80 HB hx123_0 hx124_0 hx125_0 hx126_0 hHeld ⊢
                     refine pure_ (i := 0) (N := some 37) (v := ?_) (a' := ?_) #[true, false, false, false, false, false, false, false, false, false, false, false, false, false, false, false, false, false, false, false, false, false] rfl rfl (any_of HT_.out (by kernel_rfl)) (fun _ _ _ h => h) (Or.inl ⟨by rfl, ?_⟩) ?_ ?_
                     rotate_left
                     ·intro w'
                      go_simp
                      with_reducible rfl
                     rotate_left
                     ·simp only [Act.put, List.setIfInBounds_toArray, List.set_cons_zero, List.set_cons_succ, i64_w, i32_w]
                      rfl
                     refine pure_ (i := 1) (N := some 38) (v := ?_) (a' := ?_) #[true, true, false, false, false, false, false, false, false, false, false, false, false, false, false, false, false, false, false, false, false, false] rfl rfl (any_of HT_.out (by kernel_rfl)) (fun _ _ _ h => h) (Or.inl ⟨by rfl, ?_⟩) ?_ ?_
                     rotate_left
                     ·intro w'
                      go_simp
                      with_reducible rfl
                     rotate_left
                     ·simp only [Act.put, List.setIfInBounds_toArray, List.set_cons_zero, List.set_cons_succ, i64_w, i32_w]
                      rfl
                     refine pure_ (i := 2) (N := some 39) (v := ?_) (a' := ?_) #[true, true, true, false, false, false, false, false, false, false, false, false, false, false, false, false, false, false, false, false, false, false] rfl rfl (any_of HT_.out (by kernel_rfl)) (fun _ _ _ h => h) (Or.inl ⟨by rfl, ?_⟩) ?_ ?_
                     rotate_left
                     ·intro w'
                      go_simp
                      with_reducible rfl
                     rotate_left
                     ·simp only [Act.put, List.setIfInBounds_toArray, List.set_cons_zero, List.set_cons_succ, i64_w, i32_w]
                      rfl
                     refine pure_ (i := 3) (N := some 40) (v := ?_) (a' := ?_) #[true, true, true, true, false, false, false, false, false, false, false, false, false, false, false, false, false, false, false, false, false, false] rfl rfl (any_of HT_.out (by kernel_rfl)) (fun _ _ _ h => h) (Or.inl ⟨by rfl, ?_⟩) ?_ ?_
                     rotate_left
                     ·intro w'
                      go_simp
                      with_reducible rfl
                     rotate_left
                     ·simp only [Act.put, List.setIfInBounds_toArray, List.set_cons_zero, List.set_cons_succ, i64_w, i32_w]
                      rfl
                     refine pure_ (i := 7) (N := some 44) (v := ?_) (a' := ?_) #[true, true, true, true, false, false, false, true, false, false, false, false, false, false, false, false, false, false, false, false, false, false] rfl rfl (any_of HT_.out (by kernel_rfl)) (fun _ _ _ h => h) (Or.inl ⟨by rfl, ?_⟩) ?_ ?_
                     rotate_left
                     ·intro w'
                      go_simp
                      with_reducible rfl
                     rotate_left
                     ·simp only [Act.put, List.setIfInBounds_toArray, List.set_cons_zero, List.set_cons_succ, i64_w, i32_w]
                      rfl
                     refine pure_ (i := 8) (N := some 45) (v := ?_) (a' := ?_) #[true, true, true, true, false, false, false, true, true, false, false, false, false, false, false, false, false, false, false, false, false, false] rfl rfl (any_of HT_.out (by kernel_rfl)) (fun _ _ _ h => h) (Or.inl ⟨by rfl, ?_⟩) ?_ ?_
                     rotate_left
                     ·intro w'
                      go_simp
                      with_reducible rfl
                     rotate_left
                     ·simp only [Act.put, List.setIfInBounds_toArray, List.set_cons_zero, List.set_cons_succ, i64_w, i32_w]
                      rfl
                     refine pure_ (i := 9) (N := some 46) (v := ?_) (a' := ?_) #[true, true, true, true, false, false, false, true, true, true, false, false, false, false, false, false, false, false, false, false, false, false] rfl rfl (any_of HT_.out (by kernel_rfl)) (fun _ _ _ h => h) (Or.inl ⟨by rfl, ?_⟩) ?_ ?_
                     rotate_left
                     ·intro w'
                      go_simp
                      with_reducible rfl
                     rotate_left
                     ·simp only [Act.put, List.setIfInBounds_toArray, List.set_cons_zero, List.set_cons_succ, i64_w, i32_w]
                      rfl
                     refine take_ (i := 4) (N := some 41) (v := ?_) (a' := ?_) #[true, true, true, true, true, false, false, true, true, true, false, false, false, false, false, false, false, false, false, false, false, false] rfl rfl (take_ofW HT_.out HW_.out (by kernel_rfl)) (fun _ _ _ h => h) (Or.inl ⟨by rfl, ?_⟩) hHeld ?_ ?_
                     rotate_left
                     ·rintro w' ⟨s0, s1, s2, s3⟩
                      go_simp
                      with_reducible rfl
                     rotate_left
                     ·simp only [Act.put, List.setIfInBounds_toArray, List.set_cons_zero, List.set_cons_succ, i64_w, i32_w]
                      rfl
                     refine pure_ (i := 5) (N := some 42) (v := ?_) (a' := ?_) #[true, true, true, true, true, true, false, true, true, true, false, false, false, false, false, false, false, false, false, false, false, false] rfl rfl (any_of HT_.out (by kernel_rfl)) (fun _ _ _ h => h) (Or.inl ⟨by rfl, ?_⟩) ?_ ?_
                     rotate_left
                     ·intro w'
                      go_simp
                      with_reducible rfl
                     rotate_left
                     ·simp only [Act.put, List.setIfInBounds_toArray, List.set_cons_zero, List.set_cons_succ, i64_w, i32_w]
                      rfl
                     refine take_ (i := 6) (N := some 43) (v := ?_) (a' := ?_) #[true, true, true, true, true, true, true, true, true, true, false, false, false, false, false, false, false, false, false, false, false, false] rfl rfl (take_ofW HT_.out HW_.out (by kernel_rfl)) (fun _ _ _ h => h) (Or.inl ⟨by rfl, ?_⟩) hHeld ?_ ?_
                     rotate_left
                     ·rintro w' ⟨s0, s1, s2, s3⟩
                      go_simp
                      with_reducible rfl
                     rotate_left
                     ·simp only [Act.put, List.setIfInBounds_toArray, List.set_cons_zero, List.set_cons_succ, i64_w, i32_w]
                      rfl
                     refine take_ (i := 10) (N := some 47) (v := ?_) (a' := ?_) #[true, true, true, true, true, true, true, true, true, true, true, false, false, false, false, false, false, false, false, false, false, false] rfl rfl (take_ofW HT_.out HW_.out (by kernel_rfl)) (fun _ _ _ h => h) (Or.inl ⟨by rfl, ?_⟩) hHeld ?_ ?_
                     rotate_left
                     ·rintro w' ⟨s0, s1, s2, s3⟩
                      go_simp
                      with_reducible rfl
                     rotate_left
                     ·simp only [Act.put, List.setIfInBounds_toArray, List.set_cons_zero, List.set_cons_succ, i64_w, i32_w]
                      rfl
                     refine pure_ (i := 11) (N := some 48) (v := ?_) (a' := ?_) #[true, true, true, true, true, true, true, true, true, true, true, true, false, false, false, false, false, false, false, false, false, false] rfl rfl (any_of HT_.out (by kernel_rfl)) (fun _ _ _ h => h) (Or.inl ⟨by rfl, ?_⟩) ?_ ?_
                     rotate_left
                     ·intro w'
                      go_simp
                      with_reducible rfl
                     rotate_left
                     ·simp only [Act.put, List.setIfInBounds_toArray, List.set_cons_zero, List.set_cons_succ, i64_w, i32_w]
                      rfl
                     refine pure_ (i := 12) (N := some 49) (v := ?_) (a' := ?_) #[true, true, true, true, true, true, true, true, true, true, true, true, true, false, false, false, false, false, false, false, false, false] rfl rfl (any_of HT_.out (by kernel_rfl)) (fun _ _ _ h => h) (Or.inl ⟨by rfl, ?_⟩) ?_ ?_
                     rotate_left
                     ·intro w'
                      go_simp
                      with_reducible rfl
                     rotate_left
                     ·simp only [Act.put, List.setIfInBounds_toArray, List.set_cons_zero, List.set_cons_succ, i64_w, i32_w]
                      rfl
                     refine pure_ (i := 13) (N := some 50) (v := ?_) (a' := ?_) #[true, true, true, true, true, true, true, true, true, true, true, true, true, true, false, false, false, false, false, false, false, false] rfl rfl (any_of HT_.out (by kernel_rfl)) (fun _ _ _ h => h) (Or.inl ⟨by rfl, ?_⟩) ?_ ?_
                     rotate_left
                     ·intro w'
                      go_simp
                      with_reducible rfl
                     rotate_left
                     ·simp only [Act.put, List.setIfInBounds_toArray, List.set_cons_zero, List.set_cons_succ, i64_w, i32_w]
                      rfl
                     refine pure_ (i := 14) (N := some 51) (v := ?_) (a' := ?_) #[true, true, true, true, true, true, true, true, true, true, true, true, true, true, true, false, false, false, false, false, false, false] rfl rfl (any_of HT_.out (by kernel_rfl)) (fun _ _ _ h => h) (Or.inl ⟨by rfl, ?_⟩) ?_ ?_
                     rotate_left
                     ·intro w'
                      go_simp
                      with_reducible rfl
                     rotate_left
                     ·simp only [Act.put, List.setIfInBounds_toArray, List.set_cons_zero, List.set_cons_succ, i64_w, i32_w]
                      rfl
                     refine pure_ (i := 15) (N := some 52) (v := ?_) (a' := ?_) #[true, true, true, true, true, true, true, true, true, true, true, true, true, true, true, true, false, false, false, false, false, false] rfl rfl (any_of HT_.out (by kernel_rfl)) (fun _ _ _ h => h) (Or.inl ⟨by rfl, ?_⟩) ?_ ?_
                     rotate_left
                     ·intro w'
                      go_simp
                      with_reducible rfl
                     rotate_left
                     ·simp only [Act.put, List.setIfInBounds_toArray, List.set_cons_zero, List.set_cons_succ, i64_w, i32_w]
                      rfl
                     refine pure_ (i := 16) (N := some 53) (v := ?_) (a' := ?_) #[true, true, true, true, true, true, true, true, true, true, true, true, true, true, true, true, true, false, false, false, false, false] rfl rfl (any_of HT_.out (by kernel_rfl)) (fun _ _ _ h => h) (Or.inl ⟨by rfl, ?_⟩) ?_ ?_
                     rotate_left
                     ·intro w'
                      go_simp
                      with_reducible rfl
                     rotate_left
                     ·simp only [Act.put, List.setIfInBounds_toArray, List.set_cons_zero, List.set_cons_succ, i64_w, i32_w]
                      rfl
                     refine pure_ (i := 17) (N := some 54) (v := ?_) (a' := ?_) #[true, true, true, true, true, true, true, true, true, true, true, true, true, true, true, true, true, true, false, false, false, false] rfl rfl (any_of HT_.out (by kernel_rfl)) (fun _ _ _ h => h) (Or.inl ⟨by rfl, ?_⟩) ?_ ?_
                     rotate_left
                     ·intro w'
                      go_simp
                      with_reducible rfl
                     rotate_left
                     ·simp only [Act.put, List.setIfInBounds_toArray, List.set_cons_zero, List.set_cons_succ, i64_w, i32_w]
                      rfl
                     refine pure_ (i := 19) (N := some 56) (v := ?_) (a' := ?_) #[true, true, true, true, true, true, true, true, true, true, true, true, true, true, true, true, true, true, false, true, false, false] rfl rfl (any_of HT_.out (by kernel_rfl)) (fun _ _ _ h => h) (Or.inl ⟨by rfl, ?_⟩) ?_ ?_
                     rotate_left
                     ·intro w'
                      go_simp
                      with_reducible rfl
                     rotate_left
                     ·simp only [Act.put, List.setIfInBounds_toArray, List.set_cons_zero, List.set_cons_succ, i64_w, i32_w]
                      rfl
                     refine take_ (i := 18) (N := some 55) (v := ?_) (a' := ?_) #[true, true, true, true, true, true, true, true, true, true, true, true, true, true, true, true, true, true, true, true, false, false] rfl rfl (take_ofW HT_.out HW_.out (by kernel_rfl)) (fun _ _ _ h => h) (Or.inl ⟨by rfl, ?_⟩) hHeld ?_ ?_
                     rotate_left
                     ·rintro w' ⟨s0, s1, s2, s3⟩
                      go_simp
                      with_reducible rfl
                     rotate_left
                     ·simp only [Act.put, List.setIfInBounds_toArray, List.set_cons_zero, List.set_cons_succ, i64_w, i32_w]
                      rfl
                     refine one_ (i := 20) (N := some 57) #[true, true, true, true, true, true, true, true, true, true, true, true, true, true, true, true, true, true, true, true, true, false] rfl rfl (one_of HT_.out (by kernel_rfl)) (by decide) (fun K hK => ?_)
                     refine goes_ Tryd.func158 (by kernel_rfl) rfl #[.pointer (some ⟨gp0, 0, none⟩), .slice (some ad124) l1.length c1, .int .i64 (rd x8_1 x10_2), .int .i64 x9_1] (by rfl) rfl rfl (by (try simp only [List.map_toArray, List.map_cons, List.map_nil]); first | done | rfl | (simp only [List.length_drop, List.length_take]; rfl)) ?_
                     with_reducible refine (spec_l01Alike.calls kj14 gp0 x81000_2 x81001_2 A0_2 c0_2 l0_2 A0_3 c0_3 l0_3 _ _ l1 (rd x8_1 x10_2) x9_1 false _ ?side1 ?side2 ?side3 ?side4 ?side5 ?side6 ?side7 A29.out).mono ?_
                     (case side1 => (with_reducible repeat (first | refine blk_drewN ?_ _ | refine blk_drew ?_ | refine blk_alloc ?_ _)); exact BK80.out)
                     (case side2 => repeat (first | exact (Kd.C_below HR0_2.out HB.out) | (with_reducible refine Kd.C_alloc ?_ _) | (with_reducible refine Kd.C_drewN ?_ _) | (with_reducible refine Kd.C_drew ?_)))
                     (case side3 => exact HC0_2.out)
                     (case side4 => repeat (first | exact (Kd.C_below HR0_3.out HB.out) | (with_reducible refine Kd.C_alloc ?_ _) | (with_reducible refine Kd.C_drewN ?_ _) | (with_reducible refine Kd.C_drew ?_)))
                     (case side5 => exact HC0_3.out)
                     (case side6 => repeat (first | exact (Kd.C_below HR1.out HB.out) | (with_reducible refine Kd.C_alloc ?_ _) | (with_reducible refine Kd.C_drewN ?_ _) | (with_reducible refine Kd.C_drew ?_)))
                     (case side7 => exact HC1.out)
                     rintro e w40 ⟨rfl, hb⟩
                     have HS0_ := (hb.cell (World.block_lt_of_cell? _ _ (hHeld.1))).trans (hHeld.1)
                     have HS3_ := (hb.cell (World.block_lt_of_cell? _ _ (hHeld.2.2.2))).trans (hHeld.2.2.2)
                     refine ⟨_, rfl, ?_⟩
                     have n0_ := Aside0.mk (Kd.R_below (by (with_reducible repeat (first | apply Kd.R_alloc | apply Kd.R_drewN | apply Kd.R_drew)); exact HO_7.out) hb)
                     have n1_ := Aside0.mk (Kd.R_below (by (with_reducible repeat (first | apply Kd.R_alloc | apply Kd.R_drewN | apply Kd.R_drew)); exact HO_8.out) hb)
                     have n2_ := Aside0.mk (blk_below (g := gp0) (o := .cells #[.int .i64 x81000_2, .int .i64 x81001_2, .slice A0_2 l0_2.length c0_2, .slice A0_3 l0_3.length c0_3] 29 (0, 0)) (by (with_reducible repeat (first | refine blk_drewN ?_ _ | refine blk_drew ?_ | refine blk_alloc ?_ _)); exact BK80.out) hb)
                     have n3_ := Aside0.mk (below_step (by repeat (first | (with_reducible first | exact HB.out | apply below_alloc | apply pw_below_drewN | apply below_drew1 | refine below_set ?_ GE80.out) | exact HB.out)) hb)
                     clear HO_7
                     clear HO_8
                     clear BK80
                     clear HB
                     have HO_7 := n0_
                     have HO_8 := n1_
                     have BK80 := n2_
                     have HB := n3_
                     clear n0_ n1_ n2_ n3_
                     (try clear hb)
                     (try clear hb2)
                     (try clear hk)
                     (try clear hi)
                     refine hK.out _ _ ⟨HS0_, ((HB.out.cell (World.block_lt_of_cell? w _ hw124_0)).trans hw124_0), ((HB.out.cell (World.block_lt_of_cell? w _ hw125_0)).trans hw125_0), HS3_⟩ (fun hHeld => ?_)
                     clear hK K
                     refine norm_ (a' := ?_) ?_ ?_
                     rotate_left
                     ·show Act.put _ (some 57) _ = _
                      simp only [Act.put, List.setIfInBounds_toArray, List.set_cons_zero, List.set_cons_succ, i64_w, i32_w]
                      rfl
                     refine pure_ (i := 21) (N := some 58) (v := ?_) (a' := ?_) #[true, true, true, true, true, true, true, true, true, true, true, true, true, true, true, true, true, true, true, true, true, true] rfl rfl (any_of HT_.out (by kernel_rfl)) (fun _ _ _ h => h) (Or.inl ⟨by rfl, ?_⟩) ?_ ?_
                     rotate_left
                     ·intro w'
                      go_simp
                      with_reducible rfl
                     rotate_left
                     ·simp only [Act.put, List.setIfInBounds_toArray, List.set_cons_zero, List.set_cons_succ, i64_w, i32_w]
                      rfl
                     refine done_ (done_of HT_.out (by kernel_rfl)) ?_
                     try go_wp2
                     (try simp only [← hl7_2])
                     go_roundg kj14
                     case measure => have := HK1.out; have := HK2.out; have := HJ14.out; omega
                     case rel => exact ⟨(x7_2), (wrap64 (x10_2 + 1)), (x81000_2), (x81001_2), (by first | rfl | (simp; done) | (simp [*]; done) | (simp [wrap64]; done)), H', ⟨by have := HK1.out; have := HK2.out; have := HJ14.out; omega⟩, ⟨by (try simp only [hl7_2]); (with_reducible repeat (first | apply Kd.R_alloc | apply Kd.R_drewN | apply Kd.R_drew)); exact HO_7.out⟩, ⟨by (try simp only [hl7_2]); (with_reducible repeat (first | apply Kd.R_alloc | apply Kd.R_drewN | apply Kd.R_drew)); exact HO_8.out⟩, ⟨by (try simp only [hl7_2]); (with_reducible repeat (first | refine blk_drewN ?_ _ | refine blk_drew ?_ | refine blk_alloc ?_ _)); exact BK80.out⟩, ⟨by repeat (first | (with_reducible first | exact HB.out | apply below_alloc | apply pw_below_drewN | apply below_drew1 | refine below_set ?_ GE80.out) | exact HB.out)⟩⟩
                   ·rw [if_neg c28] at H
                    have c28b0 : ((rd l1 (rd x8_1 x10_2)) == (rd l1 x9_1)) = false := beq_eq_false_iff_ne.mpr c28
                    have c28b1 : ((rd l1 (rd x8_1 x10_2)) != (rd l1 x9_1)) = true := bne_iff_ne.mpr c28
                    have H' := Aside0.mk H
                    clear H
                    try go_wp2
                    have n0_ := Aside0.mk (Kd.R_drew HO_7.out)
                    have n1_ := Aside0.mk (Kd.R_drew HO_8.out)
                    have n2_ := Aside0.mk (blk_drew BK80.out)
                    have n3_ := Aside0.mk (below_drew1 HB.out)
                    clear HO_7
                    clear HO_8
                    clear BK80
                    clear HB
                    have HO_7 := n0_
                    have HO_8 := n1_
                    have BK80 := n2_
                    have HB := n3_
                    clear n0_ n1_ n2_ n3_
                    obtain ⟨Ao42, co42, eo42⟩ := Kd.R_slice HO_8.out
                    (first | subst eo42 | (injection eo42 with f1_ f2_ f3_; have f4_ := f1_.symm; have f5_ := f3_.symm; clear f1_ f2_ f3_; subst f4_; subst f5_))
                    have p123 : 0 ≤ (x10_2 : Int) := of_decide_eq_true (by first | (with_reducible assumption) | assumption)
                    have q123 : x10_2 < (x8_1.length : Int) := of_decide_eq_true (by first | (with_reducible assumption) | assumption)
                    obtain ⟨ad123, e123, hx123_0⟩ := Kd.at_int (Kd.R_reads' HO_8.out).2.2 x10_2 p123 q123
                    cases e123
                    replace p123 := eq_true p123
                    replace q123 := eq_true q123
                    have p124 : 0 ≤ ((rd x8_1 x10_2) : Int) := of_decide_eq_true (by first | (with_reducible assumption) | assumption)
                    have q124 : (rd x8_1 x10_2) < (l1.length : Int) := of_decide_eq_true (by first | (with_reducible assumption) | assumption)
                    obtain ⟨ad124, e124, hx124_0⟩ := Kd.at_int HR1.out (rd x8_1 x10_2) p124 q124
                    have hw124_0 := hx124_0
                    cases e124
                    replace hx124_0 := (HB.out.cell (World.block_lt_of_cell? w _ hx124_0)).trans hx124_0
                    replace p124 := eq_true p124
                    replace q124 := eq_true q124
                    have p125 : 0 ≤ (x9_1 : Int) := of_decide_eq_true (by first | (with_reducible assumption) | assumption)
                    have q125 : x9_1 < (l1.length : Int) := of_decide_eq_true (by first | (with_reducible assumption) | assumption)
                    obtain ⟨ad125, e125, hx125_0⟩ := Kd.at_int HR1.out x9_1 p125 q125
                    have hw125_0 := hx125_0
                    obtain rfl : ad124 = ad125 := (by injection e125)
                    replace hx125_0 := (HB.out.cell (World.block_lt_of_cell? w _ hx125_0)).trans hx125_0
                    replace p125 := eq_true p125
                    replace q125 := eq_true q125
                    refine start_ (n := 22) (S := fun w' => w'.cell? (ad123.add (x10_2).toNat) = some (.int .i64 (rd x8_1 x10_2)) ∧ w'.cell? (ad124.add ((rd x8_1 x10_2)).toNat) = some (.int .i64 (rd l1 (rd x8_1 x10_2))) ∧ w'.cell? (ad124.add (x9_1).toNat) = some (.int .i64 (rd l1 x9_1))) (ds := []) #[false, false, false, false, false, false, false, false, false, false, false, false, false, false, false, false, false, false, false, false, false, false] (by kernel_rfl) rfl rfl ⟨hx123_0, ((HB.out.cell (World.block_lt_of_cell? w _ hw124_0)).trans hw124_0), ((HB.out.cell (World.block_lt_of_cell? w _ hw125_0)).trans hw125_0)⟩ (fun hHeld => ?_); refine with_tabW spec_l01Finer.tab11 spec_l01Finer.bits11 (fun HT_ HW_ => ?_)
                    generalize wc.drew = w41 at HO_7 HO_8 BK80 HB hx123_0 hx124_0 hx125_0 hHeld ⊢
                    refine pure_ (i := 0) (N := some 37) (v := ?_) (a' := ?_) #[true, false, false, false, false, false, false, false, false, false, false, false, false, false, false, false, false, false, false, false, false, false] rfl rfl (any_of HT_.out (by kernel_rfl)) (fun _ _ _ h => h) (Or.inl ⟨by rfl, ?_⟩) ?_ ?_
                    rotate_left
                    ·intro w'
                     go_simp
                     with_reducible rfl
                    rotate_left
                    ·simp only [Act.put, List.setIfInBounds_toArray, List.set_cons_zero, List.set_cons_succ, i64_w, i32_w]
                     rfl
                    refine pure_ (i := 1) (N := some 38) (v := ?_) (a' := ?_) #[true, true, false, false, false, false, false, false, false, false, false, false, false, false, false, false, false, false, false, false, false, false] rfl rfl (any_of HT_.out (by kernel_rfl)) (fun _ _ _ h => h) (Or.inl ⟨by rfl, ?_⟩) ?_ ?_
                    rotate_left
                    ·intro w'
                     go_simp
                     with_reducible rfl
                    rotate_left
                    ·simp only [Act.put, List.setIfInBounds_toArray, List.set_cons_zero, List.set_cons_succ, i64_w, i32_w]
                     rfl
                    refine pure_ (i := 2) (N := some 39) (v := ?_) (a' := ?_) #[true, true, true, false, false, false, false, false, false, false, false, false, false, false, false, false, false, false, false, false, false, false] rfl rfl (any_of HT_.out (by kernel_rfl)) (fun _ _ _ h => h) (Or.inl ⟨by rfl, ?_⟩) ?_ ?_
                    rotate_left
                    ·intro w'
                     go_simp
                     with_reducible rfl
                    rotate_left
                    ·simp only [Act.put, List.setIfInBounds_toArray, List.set_cons_zero, List.set_cons_succ, i64_w, i32_w]
                     rfl
                    refine pure_ (i := 3) (N := some 40) (v := ?_) (a' := ?_) #[true, true, true, true, false, false, false, false, false, false, false, false, false, false, false, false, false, false, false, false, false, false] rfl rfl (any_of HT_.out (by kernel_rfl)) (fun _ _ _ h => h) (Or.inl ⟨by rfl, ?_⟩) ?_ ?_
                    rotate_left
                    ·intro w'
                     go_simp
                     with_reducible rfl
                    rotate_left
                    ·simp only [Act.put, List.setIfInBounds_toArray, List.set_cons_zero, List.set_cons_succ, i64_w, i32_w]
                     rfl
                    refine pure_ (i := 7) (N := some 44) (v := ?_) (a' := ?_) #[true, true, true, true, false, false, false, true, false, false, false, false, false, false, false, false, false, false, false, false, false, false] rfl rfl (any_of HT_.out (by kernel_rfl)) (fun _ _ _ h => h) (Or.inl ⟨by rfl, ?_⟩) ?_ ?_
                    rotate_left
                    ·intro w'
                     go_simp
                     with_reducible rfl
                    rotate_left
                    ·simp only [Act.put, List.setIfInBounds_toArray, List.set_cons_zero, List.set_cons_succ, i64_w, i32_w]
                     rfl
                    refine pure_ (i := 8) (N := some 45) (v := ?_) (a' := ?_) #[true, true, true, true, false, false, false, true, true, false, false, false, false, false, false, false, false, false, false, false, false, false] rfl rfl (any_of HT_.out (by kernel_rfl)) (fun _ _ _ h => h) (Or.inl ⟨by rfl, ?_⟩) ?_ ?_
                    rotate_left
                    ·intro w'
                     go_simp
                     with_reducible rfl
                    rotate_left
                    ·simp only [Act.put, List.setIfInBounds_toArray, List.set_cons_zero, List.set_cons_succ, i64_w, i32_w]
                     rfl
                    refine pure_ (i := 9) (N := some 46) (v := ?_) (a' := ?_) #[true, true, true, true, false, false, false, true, true, true, false, false, false, false, false, false, false, false, false, false, false, false] rfl rfl (any_of HT_.out (by kernel_rfl)) (fun _ _ _ h => h) (Or.inl ⟨by rfl, ?_⟩) ?_ ?_
                    rotate_left
                    ·intro w'
                     go_simp
                     with_reducible rfl
                    rotate_left
                    ·simp only [Act.put, List.setIfInBounds_toArray, List.set_cons_zero, List.set_cons_succ, i64_w, i32_w]
                     rfl
                    refine take_ (i := 4) (N := some 41) (v := ?_) (a' := ?_) #[true, true, true, true, true, false, false, true, true, true, false, false, false, false, false, false, false, false, false, false, false, false] rfl rfl (take_ofW HT_.out HW_.out (by kernel_rfl)) (fun _ _ _ h => h) (Or.inl ⟨by rfl, ?_⟩) hHeld ?_ ?_
                    rotate_left
                    ·rintro w' ⟨s0, s1, s2⟩
                     go_simp
                     with_reducible rfl
                    rotate_left
                    ·simp only [Act.put, List.setIfInBounds_toArray, List.set_cons_zero, List.set_cons_succ, i64_w, i32_w]
                     rfl
                    refine pure_ (i := 5) (N := some 42) (v := ?_) (a' := ?_) #[true, true, true, true, true, true, false, true, true, true, false, false, false, false, false, false, false, false, false, false, false, false] rfl rfl (any_of HT_.out (by kernel_rfl)) (fun _ _ _ h => h) (Or.inl ⟨by rfl, ?_⟩) ?_ ?_
                    rotate_left
                    ·intro w'
                     go_simp
                     with_reducible rfl
                    rotate_left
                    ·simp only [Act.put, List.setIfInBounds_toArray, List.set_cons_zero, List.set_cons_succ, i64_w, i32_w]
                     rfl
                    refine take_ (i := 6) (N := some 43) (v := ?_) (a' := ?_) #[true, true, true, true, true, true, true, true, true, true, false, false, false, false, false, false, false, false, false, false, false, false] rfl rfl (take_ofW HT_.out HW_.out (by kernel_rfl)) (fun _ _ _ h => h) (Or.inl ⟨by rfl, ?_⟩) hHeld ?_ ?_
                    rotate_left
                    ·rintro w' ⟨s0, s1, s2⟩
                     go_simp
                     with_reducible rfl
                    rotate_left
                    ·simp only [Act.put, List.setIfInBounds_toArray, List.set_cons_zero, List.set_cons_succ, i64_w, i32_w]
                     rfl
                    refine take_ (i := 10) (N := some 47) (v := ?_) (a' := ?_) #[true, true, true, true, true, true, true, true, true, true, true, false, false, false, false, false, false, false, false, false, false, false] rfl rfl (take_ofW HT_.out HW_.out (by kernel_rfl)) (fun _ _ _ h => h) (Or.inl ⟨by rfl, ?_⟩) hHeld ?_ ?_
                    rotate_left
                    ·rintro w' ⟨s0, s1, s2⟩
                     go_simp
                     with_reducible rfl
                    rotate_left
                    ·simp only [Act.put, List.setIfInBounds_toArray, List.set_cons_zero, List.set_cons_succ, i64_w, i32_w]
                     rfl
                    refine pure_ (i := 11) (N := some 48) (v := ?_) (a' := ?_) #[true, true, true, true, true, true, true, true, true, true, true, true, false, false, false, false, false, false, false, false, false, false] rfl rfl (any_of HT_.out (by kernel_rfl)) (fun _ _ _ h => h) (Or.inl ⟨by rfl, ?_⟩) ?_ ?_
                    rotate_left
                    ·intro w'
                     go_simp
                     with_reducible rfl
                    rotate_left
                    ·simp only [Act.put, List.setIfInBounds_toArray, List.set_cons_zero, List.set_cons_succ, i64_w, i32_w]
                     rfl
                    refine pure_ (i := 12) (N := some 49) (v := ?_) (a' := ?_) #[true, true, true, true, true, true, true, true, true, true, true, true, true, false, false, false, false, false, false, false, false, false] rfl rfl (any_of HT_.out (by kernel_rfl)) (fun _ _ _ h => h) (Or.inl ⟨by rfl, ?_⟩) ?_ ?_
                    rotate_left
                    ·intro w'
                     go_simp
                     with_reducible rfl
                    rotate_left
                    ·simp only [Act.put, List.setIfInBounds_toArray, List.set_cons_zero, List.set_cons_succ, i64_w, i32_w]
                     rfl
                    refine pure_ (i := 13) (N := some 50) (v := undef) (a' := ?_) #[true, true, true, true, true, true, true, true, true, true, true, true, true, true, false, false, false, false, false, false, false, false] rfl rfl (any_of HT_.out (by kernel_rfl)) (fun _ _ _ h => h) (Or.inr ⟨by rfl, rfl⟩) ?_ ?_
                    rotate_left
                    ·simp only [Act.put, List.setIfInBounds_toArray, List.set_cons_zero, List.set_cons_succ, i64_w, i32_w]
                     rfl
                    refine pure_ (i := 14) (N := some 51) (v := undef) (a' := ?_) #[true, true, true, true, true, true, true, true, true, true, true, true, true, true, true, false, false, false, false, false, false, false] rfl rfl (any_of HT_.out (by kernel_rfl)) (fun _ _ _ h => h) (Or.inr ⟨by rfl, rfl⟩) ?_ ?_
                    rotate_left
                    ·simp only [Act.put, List.setIfInBounds_toArray, List.set_cons_zero, List.set_cons_succ, i64_w, i32_w]
                     rfl
                    refine pure_ (i := 15) (N := some 52) (v := undef) (a' := ?_) #[true, true, true, true, true, true, true, true, true, true, true, true, true, true, true, true, false, false, false, false, false, false] rfl rfl (any_of HT_.out (by kernel_rfl)) (fun _ _ _ h => h) (Or.inr ⟨by rfl, rfl⟩) ?_ ?_
                    rotate_left
                    ·simp only [Act.put, List.setIfInBounds_toArray, List.set_cons_zero, List.set_cons_succ, i64_w, i32_w]
                     rfl
                    refine pure_ (i := 16) (N := some 53) (v := undef) (a' := ?_) #[true, true, true, true, true, true, true, true, true, true, true, true, true, true, true, true, true, false, false, false, false, false] rfl rfl (any_of HT_.out (by kernel_rfl)) (fun _ _ _ h => h) (Or.inr ⟨by rfl, rfl⟩) ?_ ?_
                    rotate_left
                    ·simp only [Act.put, List.setIfInBounds_toArray, List.set_cons_zero, List.set_cons_succ, i64_w, i32_w]
                     rfl
                    refine pure_ (i := 17) (N := some 54) (v := undef) (a' := ?_) #[true, true, true, true, true, true, true, true, true, true, true, true, true, true, true, true, true, true, false, false, false, false] rfl rfl (any_of HT_.out (by kernel_rfl)) (fun _ _ _ h => h) (Or.inr ⟨by rfl, rfl⟩) ?_ ?_
                    rotate_left
                    ·simp only [Act.put, List.setIfInBounds_toArray, List.set_cons_zero, List.set_cons_succ, i64_w, i32_w]
                     rfl
                    refine pure_ (i := 18) (N := some 55) (v := undef) (a' := ?_) #[true, true, true, true, true, true, true, true, true, true, true, true, true, true, true, true, true, true, true, false, false, false] rfl rfl (any_of HT_.out (by kernel_rfl)) (fun _ _ _ h => h) (Or.inr ⟨by rfl, rfl⟩) ?_ ?_
                    rotate_left
                    ·simp only [Act.put, List.setIfInBounds_toArray, List.set_cons_zero, List.set_cons_succ, i64_w, i32_w]
                     rfl
                    refine pure_ (i := 19) (N := some 56) (v := undef) (a' := ?_) #[true, true, true, true, true, true, true, true, true, true, true, true, true, true, true, true, true, true, true, true, false, false] rfl rfl (any_of HT_.out (by kernel_rfl)) (fun _ _ _ h => h) (Or.inr ⟨by rfl, rfl⟩) ?_ ?_
                    rotate_left
                    ·simp only [Act.put, List.setIfInBounds_toArray, List.set_cons_zero, List.set_cons_succ, i64_w, i32_w]
                     rfl
                    refine pure_ (i := 20) (N := some 57) (v := undef) (a' := ?_) #[true, true, true, true, true, true, true, true, true, true, true, true, true, true, true, true, true, true, true, true, true, false] rfl rfl (any_of HT_.out (by kernel_rfl)) (fun _ _ _ h => h) (Or.inr ⟨by rfl, rfl⟩) ?_ ?_
                    rotate_left
                    ·simp only [Act.put, List.setIfInBounds_toArray, List.set_cons_zero, List.set_cons_succ, i64_w, i32_w]
                     rfl
                    refine pure_ (i := 21) (N := some 58) (v := ?_) (a' := ?_) #[true, true, true, true, true, true, true, true, true, true, true, true, true, true, true, true, true, true, true, true, true, true] rfl rfl (any_of HT_.out (by kernel_rfl)) (fun _ _ _ h => h) (Or.inl ⟨by rfl, ?_⟩) ?_ ?_
                    rotate_left
                    ·intro w'
                     go_simp
                     with_reducible rfl
                    rotate_left
                    ·simp only [Act.put, List.setIfInBounds_toArray, List.set_cons_zero, List.set_cons_succ, i64_w, i32_w]
                     rfl
                    refine done_ (done_of HT_.out (by kernel_rfl)) ?_
                    try go_wp2
                    (try simp only [← hl7_2])
                    go_roundg kj14
                    case measure => have := HK1.out; have := HK2.out; have := HJ14.out; omega
                    case rel => exact ⟨(x7_2), (wrap64 (x10_2 + 1)), (x81000_2), (x81001_2), (by first | rfl | (simp; done) | (simp [*]; done) | (simp [wrap64]; done)), H', ⟨by have := HK1.out; have := HK2.out; have := HJ14.out; omega⟩, ⟨by (try simp only [hl7_2]); (with_reducible repeat (first | apply Kd.R_alloc | apply Kd.R_drewN | apply Kd.R_drew)); exact HO_7.out⟩, ⟨by (try simp only [hl7_2]); (with_reducible repeat (first | apply Kd.R_alloc | apply Kd.R_drewN | apply Kd.R_drew)); exact HO_8.out⟩, ⟨by (try simp only [hl7_2]); (with_reducible repeat (first | refine blk_drewN ?_ _ | refine blk_drew ?_ | refine blk_alloc ?_ _)); exact BK80.out⟩, ⟨by repeat (first | (with_reducible first | exact HB.out | apply below_alloc | apply pw_below_drewN | apply below_drew1 | refine below_set ?_ GE80.out) | exact HB.out)⟩⟩
                  ·rw [if_neg c27] at H
                   exact absurd H (by simp)
                 ·rw [if_neg c26] at H
                  exact absurd H (by simp)
                ·rw [if_neg c25] at H
                 exact absurd H (by simp)
               ·rw [if_neg c24] at H
                exact absurd H (by simp)
              ·rw [if_neg c23] at H
               exact absurd H (by simp)
             ·rw [if_neg c22] at H
              exact absurd H (by simp)
            ·replace c21 := Bool.eq_false_iff.mpr c21
             subst c21
             have H1 : (if 0 ≤ x9_1 then (if x9_1 < (x7_2.length : Int) then (if (rd x7_2 x9_1) < 0 then (if x8_1.length < 17592186044416 then (spec_l01Finer.l0 kj14 l1 (l1.length : Int) (x7_2.set (x9_1 : Int).toNat (x8_1.length : Int)) (x8_1 ++ [x9_1]) (wrap64 (x9_1 + 1)) x81000_2 x81001_2 l0_2 l0_3) else (none)) else (spec_l01Finer.l0 kj14 l1 (l1.length : Int) x7_2 x8_1 (wrap64 (x9_1 + 1)) x81000_2 x81001_2 l0_2 l0_3)) else (none)) else (none)) = some (r1, r2) := by rw [if_neg (show ¬ (false = true) by decide)] at H; exact H
             clear H
             have H := H1
             clear H1
             by_cases c43 : 0 ≤ x9_1
             ·rw [if_pos c43] at H
              have c43b0 : decide (0 ≤ x9_1) = true := decide_eq_true c43
              clear c43
              by_cases c44 : x9_1 < (x7_2.length : Int)
              ·rw [if_pos c44] at H
               have c44b0 : decide (x9_1 < (x7_2.length : Int)) = true := decide_eq_true c44
               clear c44
               by_cases c45 : (rd x7_2 x9_1) < 0
               ·rw [if_pos c45] at H
                have c45b0 : decide ((rd x7_2 x9_1) < 0) = true := decide_eq_true c45
                clear c45
                obtain ⟨y130, hy130⟩ : ∃ y_ : List Int, y_ = (x7_2.set (x9_1 : Int).toNat (x8_1.length : Int)) := ⟨_, rfl⟩
                replace H : (if x8_1.length < 17592186044416 then (spec_l01Finer.l0 kj14 l1 (l1.length : Int) y130 (x8_1 ++ [x9_1]) (wrap64 (x9_1 + 1)) x81000_2 x81001_2 l0_2 l0_3) else (none)) = some (r1, r2) := by first | (rw [hy130]; with_reducible exact H) | (have H2_ := (Option.bind_some _ _).symm.trans H; rw [hy130]; with_reducible exact H2_) | (have H2_ := (Option.bind_some _ _).symm.trans H; with_reducible exact H2_) | with_reducible exact H | (rw [hy130]; exact H) | exact H
                have Ny130 := Aside0.mk hy130
                clear hy130
                by_cases c47 : x8_1.length < 17592186044416
                ·rw [if_pos c47] at H
                 have LMc47 := Aside0.mk c47
                 clear c47
                 obtain ⟨y131, hy131⟩ : ∃ y_ : List Int, y_ = (x8_1 ++ [x9_1]) := ⟨_, rfl⟩
                 replace H : (spec_l01Finer.l0 kj14 l1 (l1.length : Int) y130 y131 (wrap64 (x9_1 + 1)) x81000_2 x81001_2 l0_2 l0_3) = some (r1, r2) := by first | (rw [hy131]; with_reducible exact H) | (have H2_ := (Option.bind_some _ _).symm.trans H; rw [hy131]; with_reducible exact H2_) | (have H2_ := (Option.bind_some _ _).symm.trans H; with_reducible exact H2_) | with_reducible exact H | (rw [hy131]; exact H) | exact H
                 have Ny131 := Aside0.mk hy131
                 clear hy131
                 have H' := Aside0.mk H
                 clear H
                 have p129 : 0 ≤ (x9_1 : Int) := of_decide_eq_true (by first | (with_reducible assumption) | assumption)
                 have q129 : x9_1 < (x7_2.length : Int) := of_decide_eq_true (by first | (with_reducible assumption) | assumption)
                 obtain ⟨ad129, e129, hx129_0⟩ := Kd.at_int (Kd.R_reads' HO_7.out).2.2 x9_1 p129 q129
                 obtain rfl : (⟨go12, 0, none⟩ : Addr) = ad129 := (by injection e129)
                 (first | simp only [add_plain] at hx129_0 | simp only [add_at] at hx129_0 | simp only [Addr.add, Nat.zero_add] at hx129_0 | skip)
                 replace p129 := eq_true p129
                 replace q129 := eq_true q129
                 obtain ⟨Ao48, co48, eo48⟩ := Kd.R_slice HO_8.out
                 subst eo48
                 have p46 : 0 ≤ (x9_1 : Int) := of_decide_eq_true (by first | (with_reducible assumption) | assumption)
                 have q46 : (x9_1 : Int) < ((x7_2.length : Int) : Int) := of_decide_eq_true (by first | (with_reducible assumption) | assumption)
                 obtain ⟨hx46_0, hf46_0⟩ := Kd.R_celln 0 HO_7.out (x9_1 : Int) p46 q46
                 replace p46 := eq_true p46
                 replace q46 := eq_true q46
                 have HP49 := Kd.R_putg HO_7.out (x9_1 : Int) (x8_1.length : Int)
                 go_wp2_with (first | ((with_reducible refine gate_store (t := 2) (p := 72) rfl ?_); refine store_event (t := 2) (p := 72) (v := ?vo_w50) (w1 := (wc.setCell ⟨go12, (x9_1 : Int).toNat, none⟩ (.int .i64 (x8_1.length : Int)))) ?hg ?ho ?hn ?hr ?_; (case ho => rfl); (case hg => rfl); (case hn => rfl); (case hr => first | (go_simp; done) | (go_simp; rfl)); intro w50 hw; have hg : wc.grownBy w50 (some go12) := (by rw [hw]; exact HP49.2); have hp_ : Kd.R (Kd.int .i64) 2 w50 w.heap.size (fun k_ => some k_ ≠ (.slice Ao48 x8_1.length co48 : Value).ownBlock) (.slice (some ⟨go12, 0, none⟩) x7_2.length co12) y130 := (by rw [hw, Ny130.out]; exact HP49.1); clear HP49; have n0_ := Aside0.mk (hp_); have n1_ := Aside0.mk (Kd.R_after (v := (.slice (some ⟨go12, 0, none⟩) x7_2.length co12)) (v1 := (.slice (some ⟨go12, 0, none⟩) x7_2.length co12)) (ok := (fun _ => True)) (by (with_reducible repeat (first | apply Kd.R_alloc | apply Kd.R_drewN | apply Kd.R_drew)); exact Kd.R_mono HO_8.out (fun _ hk => ⟨trivial, hk⟩)) hg (.inl rfl)); have n2_ := Aside0.mk (blk_grown (g := gp0) (o := .cells #[.int .i64 x81000_2, .int .i64 x81001_2, .slice A0_2 l0_2.length c0_2, .slice A0_3 l0_3.length c0_3] 29 (0, 0)) (by (with_reducible repeat (first | refine blk_drewN ?_ _ | refine blk_drew ?_ | refine blk_alloc ?_ _)); exact BK80.out) hg (Kd.R_ne HO_7.out BK80.out (by decide))); have n3_ := Aside0.mk ((by rw [hw]; exact below_set (HB.out) GB12.out : Below w.heap.size w w50)); clear HO_7; clear HO_8; clear BK80; clear HB; have HO_7 := n0_; have HO_8 := n1_; have BK80 := n2_; have HB := n3_; clear n0_ n1_ n2_ n3_; clear hg hw hp_) | ((with_reducible refine gate_builtin (b := .append) (xs := #[.tmp 73, .tmp 75]) rfl ?_); at_builtin; refine Kd.R_append (Kd.int .i64) (w0 := w) w.heap.size rfl (.tmp 73) (.tmp 75) 86 2 (.int .i64 0) 8 rfl Tryd.underlying86 info2 rfl (by decide) (by omega) (.slice Ao48 x8_1.length co48) x8_1 x9_1 [.int .i64 x9_1] (fun k_ => some k_ ≠ (.slice (some ⟨go12, 0, none⟩) x7_2.length co12 : Value).ownBlock) (fun _ => False) rfl rfl ?aP (fun _ hk => hk.elim) ?aF ?aO ?aB ?aS ?aL ?_; (case aP => exact rfl); (case aB => exact (by repeat (first | (with_reducible first | exact HB.out | apply below_alloc | apply pw_below_drewN | apply below_drew1 | refine below_set ?_ GE80.out) | exact HB.out))); (case aF => exact (fun k_ hk => Kd.fresh' (Kd.R_lt (by (with_reducible repeat (first | apply Kd.R_alloc | apply Kd.R_drewN | apply Kd.R_drew)); exact HO_7.out)) k_ hk)); (case aO => exact (by (with_reducible repeat (first | apply Kd.R_alloc | apply Kd.R_drewN | apply Kd.R_drew)); exact Kd.R_mono HO_8.out (fun _ hk => hk.2))); (case aS => exact (below_size (by repeat (first | (with_reducible first | exact HB.out | apply below_alloc | apply pw_below_drewN | apply below_drew1 | refine below_set ?_ GE80.out) | exact HB.out)))); (case aL => have := LMc47.out; omega); intro v132 w51 ho hb hg hat; rw [← Ny131.out] at ho; have n0_ := Aside0.mk (Kd.R_after (ok := (fun _ => True)) (by (with_reducible repeat (first | apply Kd.R_alloc | apply Kd.R_drewN | apply Kd.R_drew)); exact Kd.R_mono HO_7.out (fun _ hk => ⟨trivial, hk⟩)) hg hat); have n1_ := Aside0.mk (blk_grown (g := gp0) (o := .cells #[.int .i64 x81000_2, .int .i64 x81001_2, .slice A0_2 l0_2.length c0_2, .slice A0_3 l0_3.length c0_3] 29 (0, 0)) (by (with_reducible repeat (first | refine blk_drewN ?_ _ | refine blk_drew ?_ | refine blk_alloc ?_ _)); exact BK80.out) hg (Kd.R_ne HO_8.out BK80.out (by decide))); have n2_ := Aside0.mk (hb); have n3_ := Aside0.mk (ho); clear HO_7; clear BK80; clear HB; clear HO_8; have HO_7 := n0_; have BK80 := n1_; have HB := n2_; have HO133 := n3_; clear n0_ n1_ n2_ n3_; clear ho hb hg hat))
                 (try simp only [← hl7_2])
                 go_roundg kj14
                 case measure => have := HK1.out; have := HK2.out; have := HJ14.out; omega
                 case rel => exact ⟨(y130), (y131), (wrap64 (x9_1 + 1)), (x81000_2), (x81001_2), (by first | rfl | (simp; done) | (simp [*]; done) | (simp [wrap64]; done)), H', ⟨by have := HK1.out; have := HK2.out; have := HJ14.out; omega⟩, ⟨by (try simp only [hl7_2]); (with_reducible repeat (first | apply Kd.R_alloc | apply Kd.R_drewN | apply Kd.R_drew)); exact Kd.R_mono HO_7.out (fun _ hk => hk.2)⟩, ⟨by (try simp only [hl7_2]); (with_reducible repeat (first | apply Kd.R_alloc | apply Kd.R_drewN | apply Kd.R_drew)); exact HO133.out⟩, ⟨by (try simp only [hl7_2]); (with_reducible repeat (first | refine blk_drewN ?_ _ | refine blk_drew ?_ | refine blk_alloc ?_ _)); exact BK80.out⟩, ⟨by repeat (first | (with_reducible first | exact HB.out | apply below_alloc | apply pw_below_drewN | apply below_drew1 | refine below_set ?_ GE80.out) | exact HB.out)⟩⟩
                ·rw [if_neg c47] at H
                 exact absurd H (by simp)
               ·rw [if_neg c45] at H
                have c45b0 : decide ((rd x7_2 x9_1) < 0) = false := decide_eq_false c45
                clear c45
                have H' := Aside0.mk H
                clear H
                have p129 : 0 ≤ (x9_1 : Int) := of_decide_eq_true (by first | (with_reducible assumption) | assumption)
                have q129 : x9_1 < (x7_2.length : Int) := of_decide_eq_true (by first | (with_reducible assumption) | assumption)
                obtain ⟨ad129, e129, hx129_0⟩ := Kd.at_int (Kd.R_reads' HO_7.out).2.2 x9_1 p129 q129
                obtain rfl : (⟨go12, 0, none⟩ : Addr) = ad129 := (by injection e129)
                (first | simp only [add_plain] at hx129_0 | simp only [add_at] at hx129_0 | simp only [Addr.add, Nat.zero_add] at hx129_0 | skip)
                replace p129 := eq_true p129
                replace q129 := eq_true q129
                go_wp2
                (try simp only [← hl7_2])
                go_roundg kj14
                case measure => have := HK1.out; have := HK2.out; have := HJ14.out; omega
                case rel => exact ⟨(x7_2), (x8_1), (wrap64 (x9_1 + 1)), (x81000_2), (x81001_2), (by first | rfl | (simp; done) | (simp [*]; done) | (simp [wrap64]; done)), H', ⟨by have := HK1.out; have := HK2.out; have := HJ14.out; omega⟩, ⟨by (try simp only [hl7_2]); (with_reducible repeat (first | apply Kd.R_alloc | apply Kd.R_drewN | apply Kd.R_drew)); exact HO_7.out⟩, ⟨by (try simp only [hl7_2]); (with_reducible repeat (first | apply Kd.R_alloc | apply Kd.R_drewN | apply Kd.R_drew)); exact HO_8.out⟩, ⟨by (try simp only [hl7_2]); (with_reducible repeat (first | refine blk_drewN ?_ _ | refine blk_drew ?_ | refine blk_alloc ?_ _)); exact BK80.out⟩, ⟨by repeat (first | (with_reducible first | exact HB.out | apply below_alloc | apply pw_below_drewN | apply below_drew1 | refine below_set ?_ GE80.out) | exact HB.out)⟩⟩
              ·rw [if_neg c44] at H
               exact absurd H (by simp)
             ·rw [if_neg c43] at H
              exact absurd H (by simp)
       ·rw [if_neg c11] at H
        exact absurd H (by simp)
      ·rw [if_neg c10] at H
       exact absurd H (by simp)
     ·rw [if_neg c9] at H
      have c9b0 : decide (x9_1 < (l1.length : Int)) = false := decide_eq_false c9
      clear c9
      simp only [Option.some.injEq, Prod.mk.injEq] at H
      obtain ⟨rfl, rfl⟩ := H
      obtain ⟨Ao52, co52, eo52⟩ := Kd.R_slice HO_8.out
      subst eo52
      go_wp2
      go_ret2
      exact ⟨_, by first | rfl | (simp [errW_none, errW_some] <;> rfl) | (simp [*, errW_none, errW_some] <;> rfl), by (with_reducible repeat (first | apply Kd.R_alloc | apply Kd.R_drewN | apply Kd.R_drew)); exact Kd.R_mono HO_7.out (fun _ hk => trivial), by repeat (first | (with_reducible first | exact HB.out | apply below_alloc | apply pw_below_drewN | apply below_drew1 | refine below_set ?_ GE80.out) | exact HB.out)⟩
  ·rw [if_neg c4] at H
   exact absurd H (by simp)
 ·rw [if_neg c3] at H
  exact absurd H (by simp)
end Go.Proofs.YtbamnonamdpooaaDoor.PB1
namespace Go.Proofs.YtbamnonamdpooaaDoor.PB1
open Go.RowKit Go.Proofs.YtbamnonamdpooaaDoorW.PrintWords Go.Proofs.YtbamnonamdpooaaDoorW.PrintLast Go.Proofs.YtbamnonamdpooaaDoorW.PrintMore
attribute [local go_sem] max2_int min2_int max_two min_two max_three min_three max_four min_four   -- for this text's walks alone
set_option linter.unusedVariables false
set_option linter.unusedSimpArgs false
end Go.Proofs.YtbamnonamdpooaaDoor.PB1
namespace Go.Proofs.YtbamnonamdpooaaDoor.Tf
set_option linter.unusedVariables false
set_option linter.unusedSimpArgs false
open Go.RowKit Go.Proofs.YtbamnonamdpooaaDoorW.PrintWords Go.Proofs.YtbamnonamdpooaaDoorW.PrintLast Go.Proofs.YtbamnonamdpooaaDoorW.PrintMore Go.Proofs.YtbamnonamdpooaaDoor.Tdy Go.Proofs.YtbamnonamdpooaaDoor.Td Go.Proofs.YtbamnonamdpooaaDoor.Mg Go.Proofs.YtbamnonamdpooaaDoor.Rg Go.Proofs.YtbamnonamdpooaaDoor.Ti Go.Proofs.YtbamnonamdpooaaDoor.Pure Go.Proofs.YtbamnonamdpooaaDoor.PB1
def wdOf (t : Nat) : Nat := 3 ^ t - 1
def digs : Nat → Nat → List Nat
 | 0, _ => []
 | t + 1, c => c % 3 :: digs t (c / 3)
def padT (t : Nat) : Nat → Nat := padOf (digs t)
theorem digs_len : ∀ (t c : Nat), (digs t c).length = t
 | 0, _ => rfl
 | t + 1, c => by rw [digs, List.length_cons, digs_len t]
theorem digs_lt : ∀ (t c : Nat), ∀ d ∈ digs t c, d < 3
 | 0, _, d, h => by cases h
 | t + 1, c, d, h => by
  rcases List.mem_cons.1 h with rfl | h
  ·exact Nat.mod_lt _ (by decide)
  ·exact digs_lt t _ d h
theorem fin_wide : ∀ t : Nat, t < 4 → impl_widthOf.f 10 (t : Int) = some ((wdOf t : Nat) : Int) ∧ spec_l01Wide.f 10 (t : Int) = some ((wdOf t : Nat) : Int) := by decide +kernel
theorem fin_digs : ∀ t : Nat, t < 4 → ∀ c : Nat, c < 26 → impl_digitsOf.f 10 (t : Int) (c : Int) = some (ints (digs t c)) := by decide +kernel
theorem fin_pad : ∀ t, t < 4 → ∀ c, c < 26 → padT t c < 2 ^ t := by decide +kernel
theorem wd_le : ∀ t, t < 4 → wdOf t ≤ 26 := by decide
theorem wd_pos : ∀ t, t < 4 → 0 < t → 0 < wdOf t := by decide
def enI' (o : Option Nat) : Int := match o with
 | none => -1
 | some e' => (e' : Int)
def endB (t e c : Nat) : Bool := decide (spec_l01Ended.f 60 (t : Int) (e : Int) (c : Int) = some (enI' (enC (padT t) e c)))
theorem fin_end : ((List.range 4).all fun t => (List.range (2 ^ t)).all fun e => (List.range (wdOf t)).all fun c => endB t e c) = true := by decide +kernel
theorem fin_ended (t : Nat) (ht : t < 4) (e : Nat) (he : e < 2 ^ t) (c : Nat) (hc : c < wdOf t) : spec_l01Ended.f 60 (t : Int) (e : Int) (c : Int) = some (enI' (enC (padT t) e c)) := by
 have h1 := List.all_eq_true.1 fin_end t (List.mem_range.2 ht)
 have h2 := List.all_eq_true.1 h1 e (List.mem_range.2 he)
 exact of_decide_eq_true (List.all_eq_true.1 h2 c (List.mem_range.2 hc))
/-! ### classes -/
theorem find_first {κ : Type} [DecidableEq κ] {k : κ} {l : List κ} {j i : Nat} (h : find id k l = some j) (hi : i < l.length) (he : l[i] = k) (hno : ∀ x, x < i → ∀ h : x < l.length, l[x] ≠ k) : j = i := by
 induction l generalizing j i with
 | nil => simp at hi
 | cons a l ih =>
  unfold find at h
  cases i with
  | zero =>
   have : id a = k := by simpa using he
   rw [if_pos this] at h
   exact (Option.some.inj h).symm
  | succ i =>
   have hne : ¬ id a = k := hno 0 (by omega) (by simp)
   rw [if_neg hne] at h
   cases hf : find id k l with
   | none => rw [hf] at h; cases h
   | some j' =>
    rw [hf] at h
    have := ih hf (by simpa using hi) (by simpa using he) (fun x hx hxl => hno (x + 1) (by omega) (by simpa using hxl))
    have h2 : j' + 1 = j := by simpa using h
    omega
section
variable {wd : Nat} {rows : List (List Nat)} {accs : List Bool} {g : List Nat}
theorem rd_row {q : Nat} (hq : q < rows.length) : rd_L1 (rows.map ints) (q : Int) = ints rows[q] := by simp [rd_L1, List.getD_eq_getElem?_getD, hq]
theorem rd_int {l : List Nat} {i : Nat} (hi : i < l.length) : rd (ints l) (i : Int) = (l[i] : Int) := by
 rw [rd_nat _ _ (by rw [ints_length]; exact hi), ints_get _ _ _ hi]
theorem ilen (l : List Nat) : ((ints l).length : Int) = (l.length : Int) := by rw [ints_length]
theorem alike_ev (hcl : Closed wd rows accs) (hg : g.length = rows.length) (hwd : wd ≤ 30) {a b : Nat} (ha : a < rows.length) (hb : b < rows.length) (a0 a1 : Int) (l2 : List Bool) :
  Ev (fun k => spec_l01Alike.f k a0 a1 l2 (rows.map ints) (ints g) (a : Int) (b : Int)) (decide (rows[a].map (fun p => g.getD p 0) = rows[b].map (fun p => g.getD p 0))) := by
 have wa := hcl.wide _ (List.getElem_mem ha)
 have wb := hcl.wide _ (List.getElem_mem hb)
 have hp : ∀ q (hq : q < rows.length) c (hc : c < rows[q].length), rows[q][c] < g.length := fun q hq c hc => by rw [hg]; exact hcl.lt _ (List.getElem_mem hq) _ (List.getElem_mem hc)
 have key := ev_all (fun k i => spec_l01Alike.l0 k (ints g) (a : Int) (b : Int) i a0 a1 l2 (rows.map ints)) wd (fun c => decide (g.getD (rows[a].getD c 0) 0 = g.getD (rows[b].getD c 0) 0)) ?_ ?_ ?_
 ·have e : ((List.range wd).all fun c => decide (g.getD (rows[a].getD c 0) 0 = g.getD (rows[b].getD c 0) 0)) = decide (rows[a].map (fun p => g.getD p 0) = rows[b].map (fun p => g.getD p 0)) := by
   rw [Bool.eq_iff_iff, List.all_eq_true]
   simp only [List.mem_range, decide_eq_true_eq]
   constructor
   ·intro h
    apply List.ext_getElem (by rw [List.length_map, List.length_map, wa, wb])
    intro c h1 h2
    rw [List.length_map] at h1 h2
    have := h c (by omega)
    simpa [List.getD_eq_getElem?_getD, h1, h2] using this
   ·intro h c hc
    have h1 : c < rows[a].length := by omega
    have h2 : c < rows[b].length := by omega
    have := congrArg (fun l => l.getD c 0) h
    simpa [List.getD_eq_getElem?_getD, h1, h2] using this
  rw [e] at key
  exact key
 all_goals
  have hl : ((rows.map ints).length : Int) = (rows.length : Int) := by rw [List.length_map]
 ·refine ev_const (fun k => ?_)
  simp only [spec_l01Alike.l0]
  rw [if_pos (by omega), if_pos (by rw [hl]; omega), rd_row ha, if_neg (by rw [ilen, wa]; omega)]
 ·intro c hc hpc r h
  have h1 : c < rows[a].length := by omega
  have h2 : c < rows[b].length := by omega
  have q1 := hp a ha c h1
  have q2 := hp b hb c h2
  refine ev_step (fun k => ?_) h
  simp only [spec_l01Alike.l0]
  rw [if_pos (by omega), if_pos (by rw [hl]; omega), rd_row ha, if_pos (by rw [ilen, wa]; omega), if_pos (by omega), rd_int h1, if_pos (by omega), if_pos (by rw [ilen]; omega), if_pos (by omega), if_pos (by rw [hl]; omega), rd_row hb, if_pos (by rw [ilen, wb]; omega), rd_int h2, if_pos (by omega), if_pos (by rw [ilen]; omega), rd_int q1, rd_int q2, wrap_up (by omega)]
  have : g[rows[a][c]] = g[rows[b][c]] := by simpa [List.getD_eq_getElem?_getD, h1, h2, q1, q2] using hpc
  rw [if_pos (by rw [this])]
 ·intro c hc hpc
  have h1 : c < rows[a].length := by omega
  have h2 : c < rows[b].length := by omega
  have q1 := hp a ha c h1
  have q2 := hp b hb c h2
  refine ev_const (fun k => ?_)
  simp only [spec_l01Alike.l0]
  rw [if_pos (by omega), if_pos (by rw [hl]; omega), rd_row ha, if_pos (by rw [ilen, wa]; omega), if_pos (by omega), rd_int h1, if_pos (by omega), if_pos (by rw [ilen]; omega), if_pos (by omega), if_pos (by rw [hl]; omega), rd_row hb, if_pos (by rw [ilen, wb]; omega), rd_int h2, if_pos (by omega), if_pos (by rw [ilen]; omega), rd_int q1, rd_int q2]
  have : ¬ g[rows[a][c]] = g[rows[b][c]] := by simpa [List.getD_eq_getElem?_getD, h1, h2, q1, q2] using hpc
  rw [if_neg (by omega)]
theorem key_eq {a b : Nat} (ha : a < rows.length) (hb : b < rows.length) : Tdy.keyOf rows g a = Tdy.keyOf rows g b ↔ g.getD a 0 = g.getD b 0 ∧ rows[a].map (fun p => g.getD p 0) = rows[b].map (fun p => g.getD p 0) := by
 have e : ∀ q (hq : q < rows.length), rows.getD q [] = rows[q] := fun q hq => by simp [List.getD_eq_getElem?_getD, hq]
 unfold Tdy.keyOf
 rw [e a ha, e b hb, List.cons.injEq]
/-- One state's class is looked for among the first states. -/
theorem inner_ev (hcl : Closed wd rows accs) (hg : g.length = rows.length) (hwd : wd ≤ 30) (hn : rows.length ≤ 1000000) (a0 a1 : Int) (l2 : List Bool) (s : Nat) (hs : s < rows.length) (fs : List Nat) (hfs : ∀ q ∈ fs, q < rows.length) (hfl : fs.length ≤ rows.length) (out : List Int) (ho : out.length = rows.length) (r : List Int × Int)
  (hend : match find id (Tdy.keyOf rows g s) (fs.map (Tdy.keyOf rows g)) with
   | some j => Ev (fun k => spec_l01Finer.l0 k (ints g) (rows.length : Int) (out.set s (j : Int)) (ints fs) ((s : Int) + 1) a0 a1 l2 (rows.map ints)) r
   | none => Ev (fun k => spec_l01Finer.l0 k (ints g) (rows.length : Int) (out.set s (fs.length : Int)) (ints fs ++ [(s : Int)]) ((s : Int) + 1) a0 a1 l2 (rows.map ints)) r) :
  ∀ d i, d + i = fs.length → (∀ x, x < i → ∀ h : x < fs.length, Tdy.keyOf rows g fs[x] ≠ Tdy.keyOf rows g s) → Ev (fun k => spec_l01Finer.l1 k (ints g) (rows.length : Int) (out.set s (-1)) (ints fs) (s : Int) (i : Int) a0 a1 l2 (rows.map ints)) r := by
 have hol : ((out.set s (-1)).length : Int) = (rows.length : Int) := by rw [List.length_set, ho]
 have hso : rd (out.set s (-1)) (s : Int) = -1 := by rw [rd_nat _ _ (by rw [List.length_set, ho]; exact hs), List.getElem_set_self]
 intro d
 induction d with
 | zero =>
  intro i hi hno
  obtain rfl : i = fs.length := by omega
  have hf : find id (Tdy.keyOf rows g s) (fs.map (Tdy.keyOf rows g)) = none := by
   cases hf : find id (Tdy.keyOf rows g s) (fs.map (Tdy.keyOf rows g)) with
   | none => rfl
   | some j =>
    obtain ⟨hj, e⟩ := find_some hf
    rw [List.length_map] at hj
    exact absurd (by simpa using e) (hno j hj hj)
  rw [hf] at hend
  refine ev_step (f := fun k => spec_l01Finer.j2 k (ints g) (rows.length : Int) (out.set s (-1)) (ints fs) (s : Int) (fs.length : Int) false a0 a1 l2 (rows.map ints)) (fun k => ?_) (ev_step (fun k => ?_) hend)
  ·simp only [spec_l01Finer.l1]
   rw [if_neg (by rw [ilen]; omega)]
  ·simp only [spec_l01Finer.j2]
   rw [if_neg (by simp), if_pos (by omega), if_pos (by rw [hol]; omega), hso, if_pos (by omega), if_pos (by rw [ints_length]; omega), wrap_up (by omega), ints_length, Int.toNat_natCast, List.set_set]
 | succ d ih =>
  intro i hi hno
  have hif : i < fs.length := by omega
  have hqi := hfs _ (List.getElem_mem hif)
  have hgi : fs[i] < g.length := by omega
  have hgs : s < g.length := by omega
  have hcall := alike_ev hcl hg hwd hqi hs a0 a1 l2
  have step1 : ∀ k, spec_l01Finer.l1 (k + 1) (ints g) (rows.length : Int) (out.set s (-1)) (ints fs) (s : Int) (i : Int) a0 a1 l2 (rows.map ints) = spec_l01Finer.j2 k (ints g) (rows.length : Int) (out.set s (-1)) (ints fs) (s : Int) (i : Int) true a0 a1 l2 (rows.map ints) := fun k => by
   simp only [spec_l01Finer.l1]
   rw [if_pos (by rw [ilen]; omega), if_pos (by omega), if_pos (by rw [hol]; omega), hso]
   rfl
  refine ev_step step1 ?_
  by_cases hc : g.getD fs[i] 0 = g.getD s 0
  ·have hc2 : ((g[fs[i]] : Nat) : Int) = ((g[s] : Nat) : Int) := by
    have : g[fs[i]] = g[s] := by simpa [List.getD_eq_getElem?_getD, hgi, hgs] using hc
    rw [this]
   refine ev_step (f := fun k => (spec_l01Alike.f k a0 a1 l2 (rows.map ints) (ints g) (fs[i] : Int) (s : Int)).bind fun t => if t = true then (if (s : Int) < ((out.set s (-1)).length : Int) then (spec_l01Finer.l1 k (ints g) (rows.length : Int) ((out.set s (-1)).set (s : Int).toNat (i : Int)) (ints fs) (s : Int) (wrap64 ((i : Int) + 1)) a0 a1 l2 (rows.map ints)) else none) else (spec_l01Finer.l1 k (ints g) (rows.length : Int) (out.set s (-1)) (ints fs) (s : Int) (wrap64 ((i : Int) + 1)) a0 a1 l2 (rows.map ints))) (fun k => ?_) (Ev.bind hcall ?_)
   ·simp only [spec_l01Finer.j2]
    rw [if_pos trivial, if_pos (by omega), if_pos (by rw [ilen]; omega), rd_int hif, if_pos (by omega), if_pos (by rw [ilen]; omega), if_pos (by omega), if_pos (by rw [ilen]; omega), rd_int hgi, rd_int hgs, if_pos hc2]
   ·by_cases ht : rows[fs[i]].map (fun p => g.getD p 0) = rows[s].map (fun p => g.getD p 0)
    ·have hkey := (key_eq hqi hs).2 ⟨hc, ht⟩
     have hf : find id (Tdy.keyOf rows g s) (fs.map (Tdy.keyOf rows g)) = some i := by
      cases hf : find id (Tdy.keyOf rows g s) (fs.map (Tdy.keyOf rows g)) with
      | none => exact absurd hkey (find_none hf _ (List.mem_map.2 ⟨fs[i], List.getElem_mem hif, rfl⟩))
      | some j => exact congrArg some (find_first hf (by rw [List.length_map]; exact hif) (by simpa using hkey) (fun x hx hxl => by rw [List.length_map] at hxl; simpa using hno x hx hxl))
     rw [hf] at hend
     refine ev_ift (by simpa using ht) (ev_ift (by rw [hol]; omega) ?_)
     rw [Int.toNat_natCast, List.set_set, wrap_up (by omega)]
     have hol2 : ((out.set s (i : Int)).length : Int) = (rows.length : Int) := by rw [List.length_set, ho]
     have hso2 : rd (out.set s (i : Int)) (s : Int) = (i : Int) := by rw [rd_nat _ _ (by rw [List.length_set, ho]; exact hs), List.getElem_set_self]
     refine ev_step (f := fun k => spec_l01Finer.j2 k (ints g) (rows.length : Int) (out.set s (i : Int)) (ints fs) (s : Int) ((i : Int) + 1) false a0 a1 l2 (rows.map ints)) (fun k => ?_) (ev_step (fun k => ?_) hend)
     ·simp only [spec_l01Finer.l1]
      by_cases hlast : (i : Int) + 1 < ((ints fs).length : Int)
      ·rw [if_pos hlast, if_pos (by omega), if_pos (by rw [hol2]; omega), hso2]
       have : decide ((i : Int) < 0) = false := by simp
       rw [this]
      ·rw [if_neg hlast]
     ·simp only [spec_l01Finer.j2]
      rw [if_neg (by simp), if_pos (by omega), if_pos (by rw [hol2]; omega), hso2, if_neg (by omega), wrap_up (by omega)]
    ·refine ev_iff (by simpa using ht) ?_
     rw [wrap_up (by omega)]
     have := ih (i + 1) (by omega) (fun x hx hxl => by
      by_cases e : x = i
      ·subst e
       intro he
       exact ht ((key_eq hqi hs).1 he).2
      ·exact hno x (by omega) hxl)
     simpa using this
  ·have hc2 : ¬ ((g[fs[i]] : Nat) : Int) = ((g[s] : Nat) : Int) := by
    intro h
    apply hc
    have h2 : g[fs[i]] = g[s] := by omega
    simp [List.getD_eq_getElem?_getD, hgi, hgs, h2]
   refine ev_step (f := fun k => spec_l01Finer.l1 k (ints g) (rows.length : Int) (out.set s (-1)) (ints fs) (s : Int) ((i : Int) + 1) a0 a1 l2 (rows.map ints)) (fun k => ?_) ?_
   ·simp only [spec_l01Finer.j2]
    rw [if_pos trivial, if_pos (by omega), if_pos (by rw [ilen]; omega), rd_int hif, if_pos (by omega), if_pos (by rw [ilen]; omega), if_pos (by omega), if_pos (by rw [ilen]; omega), rd_int hgi, rd_int hgs, if_neg hc2, wrap_up (by omega)]
   ·have := ih (i + 1) (by omega) (fun x hx hxl => by
     by_cases e : x = i
     ·subst e
      intro he
      exact hc ((key_eq hqi hs).1 he).1
     ·exact hno x (by omega) hxl)
    simpa using this
theorem ints_app (l m : List Nat) : ints (l ++ m) = ints l ++ ints m := by simp [ints, GwI.ints]
theorem set_next (outs : List Nat) (n s j : Nat) (hl : outs.length = s) (hs : s < n) : (ints outs ++ List.replicate (n - s) 0).set s (j : Int) = ints (outs ++ [j]) ++ List.replicate (n - (s + 1)) 0 := by
 have e : n - s = (n - (s + 1)) + 1 := by omega
 rw [e, List.replicate_succ, List.set_append_right _ _ (by rw [ints_length]; omega), ints_length, hl, Nat.sub_self, List.set_cons_zero, ints_app, List.append_assoc]
 rfl
theorem outer_ev (hcl : Closed wd rows accs) (hg : g.length = rows.length) (hwd : wd ≤ 30) (hn : rows.length ≤ 1000000) (a0 a1 : Int) (l2 : List Bool) : ∀ (d s : Nat) (fs outs : List Nat), d + s = rows.length → outs.length = s → (∀ q ∈ fs, q < rows.length) → fs.length ≤ s →
  Ev (fun k => spec_l01Finer.l0 k (ints g) (rows.length : Int) (ints outs ++ List.replicate (rows.length - s) 0) (ints fs) (s : Int) a0 a1 l2 (rows.map ints)) (ints (outs ++ (number ((keys rows g).drop s) (fs.map (Tdy.keyOf rows g))).1), ((number ((keys rows g).drop s) (fs.map (Tdy.keyOf rows g))).2.length : Int)) := by
 have hkl : (keys rows g).length = rows.length := by simp [keys]
 intro d
 induction d with
 | zero =>
  intro s fs outs hd ho hf hl
  obtain rfl : s = rows.length := by omega
  rw [List.drop_of_length_le (by omega)]
  refine ev_const (fun k => ?_)
  simp only [spec_l01Finer.l0]
  rw [if_neg (by omega)]
  simp [number, ints_length]
 | succ d ih =>
  intro s fs outs hd ho hf hl
  have hs : s < rows.length := by omega
  have hdr : (keys rows g).drop s = Tdy.keyOf rows g s :: (keys rows g).drop (s + 1) := by
   rw [List.drop_eq_getElem_cons (by omega)]
   simp [keys]
  have hol : (ints outs ++ List.replicate (rows.length - s) (0 : Int)).length = rows.length := by rw [List.length_append, ints_length, List.length_replicate]; omega
  rw [hdr]
  refine ev_step (f := fun k => spec_l01Finer.l1 k (ints g) (rows.length : Int) ((ints outs ++ List.replicate (rows.length - s) 0).set s (-1)) (ints fs) (s : Int) ((0 : Nat) : Int) a0 a1 l2 (rows.map ints)) (fun k => ?_) ?_
  ·simp only [spec_l01Finer.l0]
   rw [if_pos (by omega), if_pos (by omega), if_pos (by rw [hol]; omega)]
   rfl
  ·refine inner_ev hcl hg hwd hn a0 a1 l2 s hs fs hf (by omega) _ hol _ ?_ fs.length 0 (by omega) (fun x hx => by omega)
   cases hfd : find id (Tdy.keyOf rows g s) (fs.map (Tdy.keyOf rows g)) with
   | some j =>
    have e : number (Tdy.keyOf rows g s :: (keys rows g).drop (s + 1)) (fs.map (Tdy.keyOf rows g)) = (j :: (number ((keys rows g).drop (s + 1)) (fs.map (Tdy.keyOf rows g))).1, (number ((keys rows g).drop (s + 1)) (fs.map (Tdy.keyOf rows g))).2) := by rw [number, hfd]
    have h := ih (s + 1) fs (outs ++ [j]) (by omega) (by simp; omega) hf (by omega)
    rw [e]
    simp only
    rw [set_next outs _ s j ho hs]
    have e2 : ((s + 1 : Nat) : Int) = (s : Int) + 1 := by omega
    rw [e2, List.append_assoc] at h
    exact h
   | none =>
    have e : number (Tdy.keyOf rows g s :: (keys rows g).drop (s + 1)) (fs.map (Tdy.keyOf rows g)) = (fs.length :: (number ((keys rows g).drop (s + 1)) (fs.map (Tdy.keyOf rows g) ++ [Tdy.keyOf rows g s])).1, (number ((keys rows g).drop (s + 1)) (fs.map (Tdy.keyOf rows g) ++ [Tdy.keyOf rows g s])).2) := by rw [number, hfd, List.length_map]
    have h := ih (s + 1) (fs ++ [s]) (outs ++ [fs.length]) (by omega) (by simp; omega) (fun q hq => (List.mem_append.1 hq).elim (hf q) (fun h => by rw [List.mem_singleton.1 h]; exact hs)) (by simp; omega)
    rw [e]
    simp only
    rw [set_next outs _ s fs.length ho hs]
    have e2 : ((s + 1 : Nat) : Int) = (s : Int) + 1 := by omega
    rw [e2, List.append_assoc, List.map_append, ints_app fs [s]] at h
    exact h
theorem finer_ev (hcl : Closed wd rows accs) (hg : g.length = rows.length) (hwd : wd ≤ 30) (hn : rows.length ≤ 1000000) (a0 a1 : Int) (l2 : List Bool) :
  Ev (fun k => spec_l01Finer.f k a0 a1 l2 (rows.map ints) (ints g)) (ints (number (keys rows g) []).1, ((number (keys rows g) []).2.length : Int)) := by
 have h := outer_ev hcl hg hwd hn a0 a1 l2 rows.length 0 [] [] (by omega) rfl (fun q hq => by cases hq) (Nat.le_refl _)
 refine Ev.congr (fun k => ?_) h
 unfold spec_l01Finer.f
 rw [if_pos (by omega), if_pos (by rw [ints_length]; omega), ints_length, hg, Int.toNat_natCast]
 rfl
end
end Go.Proofs.YtbamnonamdpooaaDoor.Tf
namespace Go.Proofs.YtbamnonamdpooaaDoor.PL1
open Go.RowKit Go.Proofs.YtbamnonamdpooaaDoorW.PrintWords Go.Proofs.YtbamnonamdpooaaDoorW.PrintLast Go.Proofs.YtbamnonamdpooaaDoorW.PrintMore
attribute [local go_sem] max2_int min2_int max_two min_two max_three min_three max_four min_four   -- for this text's walks alone
set_option linter.unusedVariables false
set_option linter.unusedSimpArgs false
def errW : Option Int → Value
 | none => .nilIface
 | some c => .iface 0 (.int .i64 c)
theorem errW_none : errW none = .nilIface := rfl
theorem errW_some (c : Int) : errW (some c) = .iface 0 (.int .i64 c) := rfl
theorem info2 : (Tryd.prog.info? 2).map (fun i => (i.zero, i.size, i.bytes)) = some (some (.int .i64 0), 1, 8) := by kernel_rfl
end Go.Proofs.YtbamnonamdpooaaDoor.PL1
namespace Go.Proofs.YtbamnonamdpooaaDoor.PL1
open Go.RowKit Go.Proofs.YtbamnonamdpooaaDoorW.PrintWords Go.Proofs.YtbamnonamdpooaaDoorW.PrintLast Go.Proofs.YtbamnonamdpooaaDoorW.PrintMore
attribute [local go_sem] max2_int min2_int max_two min_two max_three min_three max_four min_four   -- for this text's walks alone
set_option linter.unusedVariables false
set_option linter.unusedSimpArgs false
/-! ### laws_toInt64S: function 112 -/
def laws_toInt64S.l0 : Nat → List Int → List Int → Int → Option (List Int)
 | 0, _, _, _ => none
 | k + 1, x0, x3, x4 => if x4 < (x0.length : Int) then (if 0 ≤ x4 then (if x4 < (x3.length : Int) then (laws_toInt64S.l0 k x0 (x3.set (x4 : Int).toNat (rd x0 x4)) (wrap64 (x4 + 1))) else (none)) else (none)) else (some x3)
def laws_toInt64S.f (k : Nat) (l0 : List Int) : Option (List Int) := if 0 ≤ (l0.length : Int) then (if ((l0.length : Int) : Int).toNat ≤ 35184372088832 then (laws_toInt64S.l0 k l0 (List.replicate ((l0.length : Int) : Int).toNat 0) 0) else (none)) else (none)
theorem laws_toInt64S.mono_l : ∀ k, (∀ y0 y1 y2, LeO (laws_toInt64S.l0 k y0 y1 y2) (laws_toInt64S.l0 (k + 1) y0 y1 y2))
 | 0 => fun _ _ _ r h => by simp [laws_toInt64S.l0] at h
 | k + 1 => by
  have ih0 := laws_toInt64S.mono_l k
  ·intro y0 y1 y2
   unfold laws_toInt64S.l0
   repeat' first
   | (with_reducible exact ih0 _ _ _)
   | (with_reducible exact LeO.refl _)
   | (with_reducible exact LeO.none _)
   | (with_reducible refine LeO.ite ?_ ?_)
   | (with_reducible refine LeO.bind ?_ (fun _ => ?_))
   | exact ih0 _ _ _
   | exact LeO.none _
   | refine LeO.ite ?_ ?_
   | refine LeO.bind ?_ (fun _ => ?_)
theorem laws_toInt64S.mono : ∀ a0 k, LeO (laws_toInt64S.f k a0) (laws_toInt64S.f (k + 1) a0) := by
 intro a0 k
 have ih0 := laws_toInt64S.mono_l k
 unfold laws_toInt64S.f
 repeat' first
   | (with_reducible exact ih0 _ _ _)
   | (with_reducible exact LeO.refl _)
   | (with_reducible exact LeO.none _)
   | (with_reducible refine LeO.ite ?_ ?_)
   | (with_reducible refine LeO.bind ?_ (fun _ => ?_))
   | exact ih0 _ _ _
   | exact LeO.none _
   | refine LeO.ite ?_ ?_
   | refine LeO.bind ?_ (fun _ => ?_)
set_option maxHeartbeats 8000000 in
set_option maxRecDepth 100000 in
theorem laws_toInt64S.calls (k : Nat) (A0 : Option Addr) (c0 : Nat) (l0 : List Int) (r : List Int) (w : World) (hr0 : Kd.C (Kd.int .i64) w A0 l0.length l0) (hc0 : l0.length ≤ c0) (h : laws_toInt64S.f k l0 = some r) :
  Calls Tryd.prog 112 #[.slice A0 l0.length c0] w fun e w' => ∃ v0_ : Value, e = .returned (v0_) ∧ Kd.R (Kd.int .i64) 2 w' w.heap.size (fun _ => True) v0_ r ∧ Below w.heap.size w w' := by
 have HR0 := Aside0.mk hr0
 have HC0 := Aside0.mk hc0
 clear hr0 hc0
 have HB := Aside0.mk (Below.refl w.heap.size w)
 have H : (if 0 ≤ (l0.length : Int) then (if ((l0.length : Int) : Int).toNat ≤ 35184372088832 then (laws_toInt64S.l0 k l0 (List.replicate ((l0.length : Int) : Int).toNat 0) 0) else (none)) else (none)) = some r := h
 clear h
 by_cases c2 : 0 ≤ (l0.length : Int)
 ·rw [if_pos c2] at H
  have c2b0 := eq_true c2
  have c2b1 : decide (0 ≤ (l0.length : Int)) = true := decide_eq_true c2
  clear c2
  by_cases c3 : ((l0.length : Int) : Int).toNat ≤ 35184372088832
  ·rw [if_pos c3] at H
   have c3b0 := eq_true c3
   have c3b1 : decide (((l0.length : Int) : Int).toNat ≤ 35184372088832) = true := decide_eq_true c3
   clear c3
   obtain ⟨y101, hy101⟩ : ∃ y_ : List Int, y_ = (List.replicate ((l0.length : Int) : Int).toNat 0) := ⟨_, rfl⟩
   replace H : (laws_toInt64S.l0 k l0 y101 0) = some r := by first | (rw [hy101]; with_reducible exact H) | (have H2_ := (Option.bind_some _ _).symm.trans H; rw [hy101]; with_reducible exact H2_) | (have H2_ := (Option.bind_some _ _).symm.trans H; with_reducible exact H2_) | with_reducible exact H | (rw [hy101]; exact H) | exact H
   have Ny101 := Aside0.mk hy101
   clear hy101
   have H' := Aside0.mk H
   clear H
   go_enter Tryd.func112, Tryd.ntmps112
   go_wp2_with (first | ((with_reducible refine gate_dst (N := 7) rfl ?_); refine Kd.R_make (Kd.int .i64) _ 2 rfl (N := 7) rfl 86 _ _ rfl (l0.length : Int) rfl rfl Tryd.underlying86 (.int .i64 0) 8 info2 rfl (by decide) (by omega) 0 (ok := fun _ => True) (okp := fun _ => True) rfl (fun _ hk => hk) trivial (of_decide_eq_true (by first | (with_reducible assumption) | assumption)) (Nat.le_trans (Nat.mul_le_mul_right _ (of_decide_eq_true (by first | (with_reducible assumption) | assumption) : (l0.length : Int).toNat ≤ 35184372088832)) (by omega)) (Below.refl _ _) (Nat.le_refl _) ?_; intro v102 w4 ho5 hb hg_ hnew_; clear hg_ hnew_; (first | rw [← Ny101.out] at ho5 | (simp only [Int.reduceToNat] at ho5; rw [← Ny101.out] at ho5)); have n0_ := Aside0.mk (Kd.R_lower ho5 (below_size (by repeat (first | (with_reducible first | exact HB.out | apply below_alloc | apply pw_below_drewN | apply below_drew1) | exact HB.out)))); have n1_ := Aside0.mk (below_step (by repeat (first | (with_reducible first | exact HB.out | apply below_alloc | apply pw_below_drewN | apply below_drew1) | exact HB.out)) hb); clear HB; have HO103 := n0_; have HB := n1_; clear n0_ n1_; clear hb ho5))
   go_loopg [4] k (fun kq v4 w' => ∃ (x3_1 : List Int) (x4_1 : Int), v4 = .int .i64 x4_1 ∧ Aside0 (laws_toInt64S.l0 kq l0 x3_1 x4_1 = some r) ∧ Aside0 (kq ≤ k) ∧ Aside0 (Kd.R (Kd.int .i64) 2 w' w.heap.size (fun _ => True) v102 x3_1) ∧ Aside0 (Below w.heap.size w w'))
   case atStart => exact ⟨(y101), (0), (by first | rfl | (simp; done) | (simp [*]; done) | (simp [wrap64]; done)), H', ⟨Nat.le_refl _⟩, ⟨by (with_reducible repeat (first | apply Kd.R_alloc | apply Kd.R_drewN | apply Kd.R_drew)); exact HO103.out⟩, ⟨by repeat (first | (with_reducible first | exact HB.out | apply below_alloc | apply pw_below_drewN | apply below_drew1) | exact HB.out)⟩⟩
   case round =>
    clear H'
    try clear c1
    try clear c2
    try clear c2b0
    try clear c2b1
    try clear p2
    try clear c3
    try clear c3b0
    try clear c3b1
    obtain ⟨x3_1, x4_1, rfl, HA, HK1, HO_3, HB⟩ := hrel
    cases gk with
    | zero => exact absurd HA.out (by simp [laws_toInt64S.l0])
    | succ k1 =>
     have H := HA.out
     clear HA
     simp only [laws_toInt64S.l0] at H
     by_cases c6 : x4_1 < (l0.length : Int)
     ·rw [if_pos c6] at H
      have c6b0 : decide (x4_1 < (l0.length : Int)) = true := decide_eq_true c6
      clear c6
      by_cases c7 : 0 ≤ x4_1
      ·rw [if_pos c7] at H
       have c7b0 : decide (0 ≤ x4_1) = true := decide_eq_true c7
       clear c7
       by_cases c8 : x4_1 < (x3_1.length : Int)
       ·rw [if_pos c8] at H
        have c8b0 : decide (x4_1 < (x3_1.length : Int)) = true := decide_eq_true c8
        clear c8
        obtain ⟨y105, hy105⟩ : ∃ y_ : List Int, y_ = (x3_1.set (x4_1 : Int).toNat (rd l0 x4_1)) := ⟨_, rfl⟩
        replace H : (laws_toInt64S.l0 k1 l0 y105 (wrap64 (x4_1 + 1))) = some r := by first | (rw [hy105]; with_reducible exact H) | (have H2_ := (Option.bind_some _ _).symm.trans H; rw [hy105]; with_reducible exact H2_) | (have H2_ := (Option.bind_some _ _).symm.trans H; with_reducible exact H2_) | with_reducible exact H | (rw [hy105]; exact H) | exact H
        have Ny105 := Aside0.mk hy105
        clear hy105
        have H' := Aside0.mk H
        clear H
        have p104 : 0 ≤ (x4_1 : Int) := of_decide_eq_true (by first | (with_reducible assumption) | assumption)
        have q104 : x4_1 < (l0.length : Int) := of_decide_eq_true (by first | (with_reducible assumption) | assumption)
        obtain ⟨ad104, e104, hx104_0⟩ := Kd.at_int HR0.out x4_1 p104 q104
        cases e104
        replace hx104_0 := (HB.out.cell (World.block_lt_of_cell? w _ hx104_0)).trans hx104_0
        replace p104 := eq_true p104
        replace q104 := eq_true q104
        have p9 : 0 ≤ (x4_1 : Int) := of_decide_eq_true (by first | (with_reducible assumption) | assumption)
        have q9 : (x4_1 : Int) < ((x3_1.length : Int) : Int) := of_decide_eq_true (by first | (with_reducible assumption) | assumption)
        obtain ⟨go9, co9, eo9, gb9, gl9, cl9, HG9⟩ := Kd.R_form HO_3.out (by omega)
        (first | cases eo9 | (injection eo9 with ea_ en_ ec_; (first | subst ea_ | (injection ea_ with ea_; subst ea_)); subst ec_; clear en_))
        have GB9 := Aside0.mk gb9
        have GG9 := Aside0.mk HG9
        clear gb9 gl9 HG9
        obtain ⟨hx9_0, hf9_0⟩ := Kd.R_celln 0 HO_3.out (x4_1 : Int) p9 q9
        replace p9 := eq_true p9
        replace q9 := eq_true q9
        have HP10 := Kd.R_putg HO_3.out (x4_1 : Int) (rd l0 x4_1)
        go_wp2_with (first | ((with_reducible refine gate_store (t := 2) (p := 20) rfl ?_); refine store_event (t := 2) (p := 20) (v := ?vo_w11) (w1 := (wr.setCell ⟨go9, (x4_1 : Int).toNat, none⟩ (.int .i64 (rd l0 x4_1)))) ?hg ?ho ?hn ?hr ?_; (case ho => rfl); (case hg => rfl); (case hn => rfl); (case hr => first | (go_simp; done) | (go_simp; rfl)); intro w11 hw; have hg : wr.grownBy w11 (some go9) := (by rw [hw]; exact HP10.2); have hp_ : Kd.R (Kd.int .i64) 2 w11 w.heap.size (fun _ => True) (.slice (some ⟨go9, 0, none⟩) x3_1.length co9) y105 := (by rw [hw, Ny105.out]; exact HP10.1); clear HP10; have n0_ := Aside0.mk (hp_); have n1_ := Aside0.mk ((by rw [hw]; exact below_set (HB.out) GB9.out : Below w.heap.size w w11)); clear HO_3; clear HB; have HO_3 := n0_; have HB := n1_; clear n0_ n1_; clear hg hw hp_))
        go_roundg k1
        case measure => have := HK1.out; omega
        case rel => exact ⟨(y105), (wrap64 (x4_1 + 1)), (by first | rfl | (simp; done) | (simp [*]; done) | (simp [wrap64]; done)), H', ⟨by have := HK1.out; omega⟩, ⟨by (with_reducible repeat (first | apply Kd.R_alloc | apply Kd.R_drewN | apply Kd.R_drew)); exact HO_3.out⟩, ⟨by repeat (first | (with_reducible first | exact HB.out | apply below_alloc | apply pw_below_drewN | apply below_drew1) | exact HB.out)⟩⟩
       ·rw [if_neg c8] at H
        exact absurd H (by simp)
      ·rw [if_neg c7] at H
       exact absurd H (by simp)
     ·rw [if_neg c6] at H
      have c6b0 : decide (x4_1 < (l0.length : Int)) = false := decide_eq_false c6
      clear c6
      obtain rfl := Option.some.inj H
      simp only [Option.some.injEq, Prod.mk.injEq] at H
      obtain ⟨rfl⟩ := H
      go_wp2
      go_ret
      exact ⟨_, by first | rfl | (simp [errW_none, errW_some] <;> rfl) | (simp [*, errW_none, errW_some] <;> rfl), by (with_reducible repeat (first | apply Kd.R_alloc | apply Kd.R_drewN | apply Kd.R_drew)); exact HO_3.out, by repeat (first | (with_reducible first | exact HB.out | apply below_alloc | apply pw_below_drewN | apply below_drew1) | exact HB.out)⟩
  ·rw [if_neg c3] at H
   exact absurd H (by simp)
 ·rw [if_neg c2] at H
  exact absurd H (by simp)
/-! ### laws_markInt64S: function 129 -/
def laws_markInt64S.l0 : Nat → List Int → Int → Int → Option (Int × List Int)
 | 0, _, _, _ => none
 | k + 1, x0, x1, x5 => if x5 < (x0.length : Int) then (if 0 ≤ x5 then (laws_markInt64S.l0 k (x0.set (x5 : Int).toNat x1) (wrap64 (x1 + 1)) (wrap64 (x5 + 1))) else (none)) else (some (x1, x0))
def laws_markInt64S.f (k : Nat) (l0 : List Int) (a1 : Int) : Option (Int × List Int) := laws_markInt64S.l0 k l0 a1 0
theorem laws_markInt64S.mono_l : ∀ k, (∀ y0 y1 y2, LeO (laws_markInt64S.l0 k y0 y1 y2) (laws_markInt64S.l0 (k + 1) y0 y1 y2))
 | 0 => fun _ _ _ r h => by simp [laws_markInt64S.l0] at h
 | k + 1 => by
  have ih0 := laws_markInt64S.mono_l k
  ·intro y0 y1 y2
   unfold laws_markInt64S.l0
   repeat' first
   | (with_reducible exact ih0 _ _ _)
   | (with_reducible exact LeO.refl _)
   | (with_reducible exact LeO.none _)
   | (with_reducible refine LeO.ite ?_ ?_)
   | (with_reducible refine LeO.bind ?_ (fun _ => ?_))
   | exact ih0 _ _ _
   | exact LeO.none _
   | refine LeO.ite ?_ ?_
   | refine LeO.bind ?_ (fun _ => ?_)
theorem laws_markInt64S.mono : ∀ a0 a1 k, LeO (laws_markInt64S.f k a0 a1) (laws_markInt64S.f (k + 1) a0 a1) := by
 intro a0 a1 k
 have ih0 := laws_markInt64S.mono_l k
 unfold laws_markInt64S.f
 repeat' first
   | (with_reducible exact ih0 _ _ _)
   | (with_reducible exact LeO.refl _)
   | (with_reducible exact LeO.none _)
   | (with_reducible refine LeO.ite ?_ ?_)
   | (with_reducible refine LeO.bind ?_ (fun _ => ?_))
   | exact ih0 _ _ _
   | exact LeO.none _
   | refine LeO.ite ?_ ?_
   | refine LeO.bind ?_ (fun _ => ?_)
set_option maxHeartbeats 8000000 in
set_option maxRecDepth 100000 in
theorem laws_markInt64S.calls (k : Nat) (P0_ : Nat → Prop) (u9000_ : Value) (l0 : List Int) (a1 : Int) (r1 : Int) (r2 : List Int) (w0 w : World) (hB : Below w0.heap.size w0 w) (ho0 : Kd.R (Kd.int .i64) 2 w w0.heap.size P0_ u9000_ l0) (h : laws_markInt64S.f k l0 a1 = some (r1, r2)) :
  Calls Tryd.prog 129 #[u9000_, .int .i64 a1] w fun e w' => e = .returned (.int .i64 r1) ∧ Kd.R (Kd.int .i64) 2 w' w0.heap.size (fun k_ => (P0_ k_ ∨ w.heap.size ≤ k_)) u9000_ r2 ∧ Below w0.heap.size w0 w' ∧ Kept w w' (fun k_ => P0_ k_) := by
 have HO0 := Aside0.mk (show Kd.R (Kd.int .i64) 2 w w0.heap.size (fun k_ => (P0_ k_ ∨ w.heap.size ≤ k_)) u9000_ l0 from Kd.R_mono ho0 (fun k_ hk => (.inl hk)))
 have HK := Aside0.mk (Kept.refl w (fun k_ => P0_ k_))
 have HW0 := Aside0.mk hB.size
 have HB := Aside0.mk hB
 clear hB
 have H : (laws_markInt64S.l0 k l0 a1 0) = some (r1, r2) := h
 clear h
 have H' := Aside0.mk H
 clear H
 go_enter Tryd.func129, Tryd.ntmps129
 go_wp2
 go_loopg [1, 5] k (fun kq v1 v5 w' => ∃ (x0_1 : List Int) (x1_1 : Int) (x5_1 : Int), v1 = .int .i64 x1_1 ∧ v5 = .int .i64 x5_1 ∧ Aside0 (laws_markInt64S.l0 kq x0_1 x1_1 x5_1 = some (r1, r2)) ∧ Aside0 (kq ≤ k) ∧ Aside0 (Kd.R (Kd.int .i64) 2 w' w0.heap.size (fun k_ => (P0_ k_ ∨ w.heap.size ≤ k_)) u9000_ x0_1) ∧ Aside0 (Kept w w' (fun k_ => P0_ k_)) ∧ Aside0 (Below w0.heap.size w0 w'))
 case atStart => exact ⟨(l0), (a1), (0), (by first | rfl | (simp; done) | (simp [*]; done) | (simp [wrap64]; done)), (by first | rfl | (simp; done) | (simp [*]; done) | (simp [wrap64]; done)), H', ⟨Nat.le_refl _⟩, ⟨by (with_reducible repeat (first | apply Kd.R_alloc | apply Kd.R_drewN | apply Kd.R_drew)); exact HO0.out⟩, ⟨by repeat (first | (with_reducible first | exact HK.out | apply Kept.alloc | apply Kept.drewN | apply Kept.drew) | exact HK.out)⟩, ⟨by repeat (first | (with_reducible first | exact HB.out | apply below_alloc | apply pw_below_drewN | apply below_drew1) | exact HB.out)⟩⟩
 case round =>
  clear H'
  try clear c1
  try clear p2
  obtain ⟨x0_1, x1_1, x5_1, rfl, rfl, HA, HK1, HO_0, HK, HB⟩ := hrel
  cases gk with
  | zero => exact absurd HA.out (by simp [laws_markInt64S.l0])
  | succ k1 =>
   have H := HA.out
   clear HA
   simp only [laws_markInt64S.l0] at H
   by_cases c3 : x5_1 < (x0_1.length : Int)
   ·rw [if_pos c3] at H
    have c3b0 : decide (x5_1 < (x0_1.length : Int)) = true := decide_eq_true c3
    clear c3
    by_cases c4 : 0 ≤ x5_1
    ·rw [if_pos c4] at H
     have c4b0 : decide (0 ≤ x5_1) = true := decide_eq_true c4
     clear c4
     obtain ⟨y106, hy106⟩ : ∃ y_ : List Int, y_ = (x0_1.set (x5_1 : Int).toNat x1_1) := ⟨_, rfl⟩
     replace H : (laws_markInt64S.l0 k1 y106 (wrap64 (x1_1 + 1)) (wrap64 (x5_1 + 1))) = some (r1, r2) := by first | (rw [hy106]; with_reducible exact H) | (have H2_ := (Option.bind_some _ _).symm.trans H; rw [hy106]; with_reducible exact H2_) | (have H2_ := (Option.bind_some _ _).symm.trans H; with_reducible exact H2_) | with_reducible exact H | (rw [hy106]; exact H) | exact H
     have Ny106 := Aside0.mk hy106
     clear hy106
     have H' := Aside0.mk H
     clear H
     obtain ⟨Ao6, co6, eo6⟩ := Kd.R_slice HO_0.out
     subst eo6
     have p5 : 0 ≤ (x5_1 : Int) := of_decide_eq_true (by first | (with_reducible assumption) | assumption)
     have q5 : (x5_1 : Int) < ((x0_1.length : Int) : Int) := of_decide_eq_true (by first | (with_reducible assumption) | assumption)
     obtain ⟨go5, co5, eo5, gb5, gl5, cl5, HG5⟩ := Kd.R_form HO_0.out (by omega)
     (first | cases eo5 | (injection eo5 with ea_ en_ ec_; (first | subst ea_ | (injection ea_ with ea_; subst ea_)); subst ec_; clear en_))
     have GB5 := Aside0.mk gb5
     have GG5 := Aside0.mk HG5
     clear gb5 gl5 HG5
     have HMgo5 := Aside0.mk (show (P0_ go5 ∨ w.heap.size ≤ go5) from (HO_0.out.1 _ rfl))
     obtain ⟨hx5_0, hf5_0⟩ := Kd.R_celln 0 HO_0.out (x5_1 : Int) p5 q5
     replace p5 := eq_true p5
     replace q5 := eq_true q5
     have HP7 := Kd.R_putg HO_0.out (x5_1 : Int) x1_1
     go_wp2_with (first | ((with_reducible refine gate_store (t := 2) (p := 15) rfl ?_); refine store_event (t := 2) (p := 15) (v := ?vo_w8) (w1 := (wr.setCell ⟨go5, (x5_1 : Int).toNat, none⟩ (.int .i64 x1_1))) ?hg ?ho ?hn ?hr ?_; (case ho => rfl); (case hg => rfl); (case hn => rfl); (case hr => first | (go_simp; done) | (go_simp; rfl)); intro w8 hw; have hg : wr.grownBy w8 (some go5) := (by rw [hw]; exact HP7.2); have hp_ : Kd.R (Kd.int .i64) 2 w8 w0.heap.size (fun k_ => (P0_ k_ ∨ w.heap.size ≤ k_)) (.slice (some ⟨go5, 0, none⟩) x0_1.length co6) y106 := (by rw [hw, Ny106.out]; exact HP7.1); clear HP7; have n0_ := Aside0.mk (hp_); have n1_ := Aside0.mk ((by rw [hw]; exact below_set (HB.out) GB5.out : Below w0.heap.size w0 w8)); have n2_ := Aside0.mk (Kept.of_grown (S := (fun k_ => P0_ k_)) hg (by repeat (first | (with_reducible first | exact HK.out | apply Kept.alloc | apply Kept.drewN | apply Kept.drew) | exact HK.out)) (fun k_ e_ => (HO_0.out.1 k_ e_))); clear HO_0; clear HB; clear HK; have HO_0 := n0_; have HB := n1_; have HK := n2_; clear n0_ n1_ n2_; clear hg hw hp_))
     go_roundg k1
     case measure => have := HK1.out; omega
     case rel => exact ⟨(y106), (wrap64 (x1_1 + 1)), (wrap64 (x5_1 + 1)), (by first | rfl | (simp; done) | (simp [*]; done) | (simp [wrap64]; done)), (by first | rfl | (simp; done) | (simp [*]; done) | (simp [wrap64]; done)), H', ⟨by have := HK1.out; omega⟩, ⟨by (with_reducible repeat (first | apply Kd.R_alloc | apply Kd.R_drewN | apply Kd.R_drew)); exact HO_0.out⟩, ⟨by repeat (first | (with_reducible first | exact HK.out | apply Kept.alloc | apply Kept.drewN | apply Kept.drew) | exact HK.out)⟩, ⟨by repeat (first | (with_reducible first | exact HB.out | apply below_alloc | apply pw_below_drewN | apply below_drew1) | exact HB.out)⟩⟩
    ·rw [if_neg c4] at H
     exact absurd H (by simp)
   ·rw [if_neg c3] at H
    have c3b0 : decide (x5_1 < (x0_1.length : Int)) = false := decide_eq_false c3
    clear c3
    simp only [Option.some.injEq, Prod.mk.injEq] at H
    obtain ⟨rfl, rfl⟩ := H
    obtain ⟨Ao9, co9, eo9⟩ := Kd.R_slice HO_0.out
    subst eo9
    go_wp2
    go_ret
    exact ⟨by first | rfl | (simp [errW_none, errW_some] <;> rfl) | (simp [*, errW_none, errW_some] <;> rfl), by (with_reducible repeat (first | apply Kd.R_alloc | apply Kd.R_drewN | apply Kd.R_drew)); exact HO_0.out, by repeat (first | (with_reducible first | exact HB.out | apply below_alloc | apply pw_below_drewN | apply below_drew1) | exact HB.out), by repeat (first | (with_reducible first | exact HK.out | apply Kept.alloc | apply Kept.drewN | apply Kept.drew) | exact HK.out)⟩
end Go.Proofs.YtbamnonamdpooaaDoor.PL1
namespace Go.Proofs.YtbamnonamdpooaaDoor.PL1
open Go.RowKit Go.Proofs.YtbamnonamdpooaaDoorW.PrintWords Go.Proofs.YtbamnonamdpooaaDoorW.PrintLast Go.Proofs.YtbamnonamdpooaaDoorW.PrintMore
attribute [local go_sem] max2_int min2_int max_two min_two max_three min_three max_four min_four   -- for this text's walks alone
set_option linter.unusedVariables false
set_option linter.unusedSimpArgs false
end Go.Proofs.YtbamnonamdpooaaDoor.PL1
namespace Go.Proofs.YtbamnonamdpooaaDoor.PT2
open Go.RowKit Go.Proofs.YtbamnonamdpooaaDoorW.PrintWords Go.Proofs.YtbamnonamdpooaaDoorW.PrintLast Go.Proofs.YtbamnonamdpooaaDoorW.PrintMore Go.Proofs.YtbamnonamdpooaaDoor.PB1 Go.Proofs.YtbamnonamdpooaaDoor.PL1
attribute [local go_sem] max2_int min2_int max_two min_two max_three min_three max_four min_four   -- for this text's walks alone
set_option linter.unusedVariables false
set_option linter.unusedSimpArgs false
def errW : Option Int → Value
 | none => .nilIface
 | some c => .iface 0 (.int .i64 c)
theorem errW_none : errW none = .nilIface := rfl
theorem errW_some (c : Int) : errW (some c) = .iface 0 (.int .i64 c) := rfl
end Go.Proofs.YtbamnonamdpooaaDoor.PT2
namespace Go.Proofs.YtbamnonamdpooaaDoor.PT2
open Go.RowKit Go.Proofs.YtbamnonamdpooaaDoorW.PrintWords Go.Proofs.YtbamnonamdpooaaDoorW.PrintLast Go.Proofs.YtbamnonamdpooaaDoorW.PrintMore Go.Proofs.YtbamnonamdpooaaDoor.PB1 Go.Proofs.YtbamnonamdpooaaDoor.PL1
attribute [local go_sem] max2_int min2_int max_two min_two max_three min_three max_four min_four   -- for this text's walks alone
set_option linter.unusedVariables false
set_option linter.unusedSimpArgs false
/-! ### spec_l00In: function 119 -/
def spec_l00In.f (a0 : Int) (a1 : Int) (a2 : Int) : Option (Bool) := if a0 ≥ a1 then (some (decide (a0 ≤ a2))) else (some false)
set_option maxHeartbeats 8000000 in
set_option maxRecDepth 100000 in
theorem spec_l00In.calls (a0 : Int) (a1 : Int) (a2 : Int) (r : Bool) (w : World) (h : spec_l00In.f a0 a1 a2 = some r) :
  Calls Tryd.prog 119 #[.int .i64 a0, .int .i64 a1, .int .i64 a2] w fun e w' => e = .returned (.bool r) ∧ Drawn0 w w' := by
 have H : (if a0 ≥ a1 then (some (decide (a0 ≤ a2))) else (some false)) = some r := h
 clear h
 by_cases c4 : a0 ≥ a1
 ·rw [if_pos c4] at H
  have c4b0 : decide (a1 ≤ a0) = true := decide_eq_true c4
  clear c4
  obtain rfl := Option.some.inj H
  simp only [Option.some.injEq, Prod.mk.injEq] at H
  obtain ⟨rfl⟩ := H
  go_enter Tryd.func119, Tryd.ntmps119
  go_wp2
  go_ret
  exact ⟨by first | rfl | (simp; done) | (simp [*]; done) | (simp [wrap64]; done), by repeat (first | exact Drawn0.refl _ | apply Drawn0.step)⟩
 ·rw [if_neg c4] at H
  have c4b0 : decide (a1 ≤ a0) = false := decide_eq_false c4
  clear c4
  obtain rfl := Option.some.inj H
  simp only [Option.some.injEq, Prod.mk.injEq] at H
  obtain ⟨rfl⟩ := H
  go_enter Tryd.func119, Tryd.ntmps119
  go_wp2
  go_ret
  exact ⟨by first | rfl | (simp; done) | (simp [*]; done) | (simp [wrap64]; done), by repeat (first | exact Drawn0.refl _ | apply Drawn0.step)⟩
/-! ### impl_within: function 123 -/
def impl_within.f (a0 : Int) (a1 : Int) (a2 : Int) : Option (Bool) := if a1 ≤ a0 then (some (decide (a0 ≤ a2))) else (some false)
set_option maxHeartbeats 8000000 in
set_option maxRecDepth 100000 in
theorem impl_within.calls (a0 : Int) (a1 : Int) (a2 : Int) (r : Bool) (w : World) (h : impl_within.f a0 a1 a2 = some r) :
  Calls Tryd.prog 123 #[.int .i64 a0, .int .i64 a1, .int .i64 a2] w fun e w' => e = .returned (.bool r) ∧ Drawn0 w w' := by
 have H : (if a1 ≤ a0 then (some (decide (a0 ≤ a2))) else (some false)) = some r := h
 clear h
 by_cases c4 : a1 ≤ a0
 ·rw [if_pos c4] at H
  have c4b0 : decide (a1 ≤ a0) = true := decide_eq_true c4
  clear c4
  obtain rfl := Option.some.inj H
  simp only [Option.some.injEq, Prod.mk.injEq] at H
  obtain ⟨rfl⟩ := H
  go_enter Tryd.func123, Tryd.ntmps123
  go_wp2
  go_ret
  exact ⟨by first | rfl | (simp; done) | (simp [*]; done) | (simp [wrap64]; done), by repeat (first | exact Drawn0.refl _ | apply Drawn0.step)⟩
 ·rw [if_neg c4] at H
  have c4b0 : decide (a1 ≤ a0) = false := decide_eq_false c4
  clear c4
  obtain rfl := Option.some.inj H
  simp only [Option.some.injEq, Prod.mk.injEq] at H
  obtain ⟨rfl⟩ := H
  go_enter Tryd.func123, Tryd.ntmps123
  go_wp2
  go_ret
  exact ⟨by first | rfl | (simp; done) | (simp [*]; done) | (simp [wrap64]; done), by repeat (first | exact Drawn0.refl _ | apply Drawn0.step)⟩
/-! ### impl_areTapes: function 146 -/
def impl_areTapes.f (a0 : Int) : Option (Bool) := (impl_within.f a0 1 3).bind fun t101 => (some t101)
set_option maxHeartbeats 8000000 in
set_option maxRecDepth 100000 in
theorem impl_areTapes.calls (a0 : Int) (r : Bool) (w : World) (h : impl_areTapes.f a0 = some r) :
  Calls Tryd.prog 146 #[.int .i64 a0] w fun e w' => e = .returned (.bool r) ∧ Drawn0 w w' := by
 have H : ((impl_within.f a0 1 3).bind fun t101 => (some t101)) = some r := h
 clear h
 replace H := Option.bind_eq_some_iff.mp H
 obtain ⟨t101, A20, H⟩ := H
 replace H : (some t101) = some r := H
 have A2 := Aside0.mk A20
 clear A20
 obtain rfl := Option.some.inj H
 simp only [Option.some.injEq, Prod.mk.injEq] at H
 obtain ⟨rfl⟩ := H
 go_enter Tryd.func146, Tryd.ntmps146
 go_wp2_with (first | ((with_reducible refine gate_callee (f := 123) rfl ?_); refine goesL_ (some 4) rfl rfl Tryd.func123 (by kernel_rfl) rfl #[.int .i64 a0, .int .i64 1, .int .i64 3] rfl (by (try simp only [List.map_toArray, List.map_cons, List.map_nil]); first | done | rfl | (simp only [List.length_drop, List.length_take]; rfl)) ?_; (with_reducible refine (impl_within.calls a0 1 3 t101 _ A2.out).mono ?_); rintro e w' ⟨rfl, ⟨nd, rfl⟩⟩; refine ⟨_, rfl, ?_⟩))
 go_ret
 exact ⟨by first | rfl | (simp; done) | (simp [*]; done) | (simp [wrap64]; done), by repeat (first | exact Drawn0.refl _ | apply Drawn0.step)⟩
end Go.Proofs.YtbamnonamdpooaaDoor.PT2
namespace Go.Proofs.YtbamnonamdpooaaDoor.PT2
open Go.RowKit Go.Proofs.YtbamnonamdpooaaDoorW.PrintWords Go.Proofs.YtbamnonamdpooaaDoorW.PrintLast Go.Proofs.YtbamnonamdpooaaDoorW.PrintMore Go.Proofs.YtbamnonamdpooaaDoor.PB1 Go.Proofs.YtbamnonamdpooaaDoor.PL1
attribute [local go_sem] max2_int min2_int max_two min_two max_three min_three max_four min_four   -- for this text's walks alone
set_option linter.unusedVariables false
set_option linter.unusedSimpArgs false
end Go.Proofs.YtbamnonamdpooaaDoor.PT2
namespace Go.Proofs.YtbamnonamdpooaaDoor.Lr
set_option linter.unusedVariables false
set_option linter.unusedSimpArgs false
open Go.RowKit Go.Proofs.YtbamnonamdpooaaDoorW.PrintWords Go.Proofs.YtbamnonamdpooaaDoorW.PrintLast Go.Proofs.YtbamnonamdpooaaDoorW.PrintMore Go.Proofs.YtbamnonamdpooaaDoor.Kp Go.Proofs.YtbamnonamdpooaaDoor.PB1 Go.Proofs.YtbamnonamdpooaaDoor.PT2 Go.Proofs.YtbamnonamdpooaaDoor.Pure Go.Proofs.YtbamnonamdpooaaDoor.Tf
theorem at_cell {w1 w2 : World} (hb : Below w1.heap.size w1 w2) {p : Addr} {v : Value} (hc : w1.cell? p = some v) : w2.cell? p = some v := (hb.cell (World.block_lt_of_cell? w1 _ hc)).trans hc
/-! ### what is valid -/
def okX (n : Nat) (x : Int) : Bool := decide (0 ≤ x ∧ x < (n : Int))
def okW (t : Int) (n : Nat) (r : List Int) : Bool := decide (r.length = wdOf t.toNat) && r.all (okX n)
/-- The shape of a relation, of any size. -/
def okF (t s : Int) (a : List Bool) (b : List (List Int)) : Bool := decide (1 ≤ t ∧ t ≤ 3) && decide (1 ≤ a.length) && okX a.length s && decide (b.length = a.length) && b.all (okW t a.length)
theorem in_spec (x lo hi : Int) (W : World) : Calls Tryd.prog 119 #[.int .i64 x, .int .i64 lo, .int .i64 hi] W fun e W' => e = .returned (.bool (decide (lo ≤ x ∧ x ≤ hi))) ∧ Below W.heap.size W W' := by
 have h : spec_l00In.f x lo hi = some (decide (lo ≤ x ∧ x ≤ hi)) := by
  unfold spec_l00In.f
  by_cases h : x ≥ lo
  ·rw [if_pos h]; congr 1; rw [decide_eq_decide]; omega
  ·rw [if_neg h]; congr 1; symm; rw [decide_eq_false_iff_not]; omega
 exact (spec_l00In.calls x lo hi _ W h).mono (fun e W' hh => ⟨hh.1, hh.2.below⟩)
theorem in_impl (x lo hi : Int) (W : World) : Calls Tryd.prog 123 #[.int .i64 x, .int .i64 lo, .int .i64 hi] W fun e W' => e = .returned (.bool (decide (lo ≤ x ∧ x ≤ hi))) ∧ Below W.heap.size W W' := by
 have h : impl_within.f x lo hi = some (decide (lo ≤ x ∧ x ≤ hi)) := by
  unfold impl_within.f
  by_cases h : lo ≤ x
  ·rw [if_pos h]; congr 1; rw [decide_eq_decide]; omega
  ·rw [if_neg h]; congr 1; symm; rw [decide_eq_false_iff_not]; omega
 exact (impl_within.calls x lo hi _ W h).mono (fun e W' hh => ⟨hh.1, hh.2.below⟩)
theorem tapes_impl (x : Int) (W : World) : Calls Tryd.prog 146 #[.int .i64 x] W fun e W' => e = .returned (.bool (decide (1 ≤ x ∧ x ≤ 3))) ∧ Below W.heap.size W W' := by
 have h : impl_areTapes.f x = some (decide (1 ≤ x ∧ x ≤ 3)) := by
  unfold impl_areTapes.f impl_within.f
  by_cases h : 1 ≤ x
  ·rw [if_pos h, Option.bind_some]; congr 1; rw [decide_eq_decide]; omega
  ·rw [if_neg h, Option.bind_some]; congr 1; symm; rw [decide_eq_false_iff_not]; omega
 exact (impl_areTapes.calls x _ W h).mono (fun e W' hh => ⟨hh.1, hh.2.below⟩)
theorem wide_specQ {t : Int} (h0 : 0 ≤ t) (h : t ≤ 3) (W : World) : Calls Tryd.prog 60 #[.int .i64 t] W fun e W' => e = .returned (.int .i64 ((wdOf t.toNat : Nat) : Int)) ∧ Drawn0 W W' := by
 have e : ((t.toNat : Nat) : Int) = t := by omega
 exact spec_l01Wide.calls 10 t _ W (by have := (fin_wide t.toNat (by omega)).2; rwa [e] at this)
theorem wide_impl {t : Int} (h0 : 0 ≤ t) (h : t ≤ 3) (W : World) : Calls Tryd.prog 124 #[.int .i64 t] W fun e W' => e = .returned (.int .i64 ((wdOf t.toNat : Nat) : Int)) ∧ Below W.heap.size W W' := by
 have e : ((t.toNat : Nat) : Int) = t := by omega
 exact (impl_widthOf.calls 10 t _ W (by have := (fin_wide t.toNat (by omega)).1; rwa [e] at this)).mono (fun e W' hh => ⟨hh.1, hh.2.below⟩)
theorem in_x {n : Nat} (h1 : 1 ≤ n) (h2 : n ≤ 1048576) (x : Int) : decide (0 ≤ x ∧ x ≤ (n : Int) - 1) = okX n x := by
 unfold okX
 rw [decide_eq_decide]
 omega
theorem all_false {α : Type} {p : α → Bool} {l : List α} {x : α} (hm : x ∈ l) (h : p x = false) : l.all p = false := by
 rw [List.all_eq_false]
 exact ⟨x, hm, by rw [h]; simp⟩
theorem all_take {α : Type} {p : α → Bool} {l : List α} {i : Nat} (hi : i < l.length) (h : (l.take i).all p = true) (hx : p l[i] = true) : (l.take (i + 1)).all p = true := by
 rw [List.take_succ_eq_append_getElem hi, List.all_append, h, List.all_cons, hx]
 rfl
set_option maxHeartbeats 4000000 in
/-- The reference's test of a relation's shape. -/
theorem form (gp : Nat) (t s : Int) (A2 : Option Addr) (c2 : Nat) (a : List Bool) (A3 : Option Addr) (c3 : Nat) (b : List (List Int)) (w : World) (hP : w.heap[gp]? = some (.cells #[.int .i64 t, .int .i64 s, .slice A2 a.length c2, .slice A3 b.length c3] 29 (0, 0)))
  (h3 : Kd.C (Kd.slice 2 (Kd.int .i64)) w A3 b.length b) (l3 : b.length ≤ c3) (ha : a.length ≤ 1048576) (hb : b.length ≤ 1048576) (hs : ∀ r ∈ b, r.length ≤ 1048576) :
  Calls Tryd.prog 144 #[.pointer (some ⟨gp, 0, none⟩)] w fun e w' => e = .returned (.bool (okF t s a b)) ∧ Below w.heap.size w w' := by
 have hgp := blk_lt hP
 have m0 : w.cell? ⟨gp, 0, none⟩ = some (.int .i64 t) := (blk_cell hP 0).trans rfl
 have m1 : w.cell? ⟨gp, 1, none⟩ = some (.int .i64 s) := (blk_cell hP 1).trans rfl
 have m2 : w.cell? ⟨gp, 2, none⟩ = some (.slice A2 a.length c2) := (blk_cell hP 2).trans rfl
 have m3 : w.cell? ⟨gp, 3, none⟩ = some (.slice A3 b.length c3) := (blk_cell hP 3).trans rfl
 have hin := Aside0.mk in_spec
 by_cases ht : 1 ≤ t ∧ t ≤ 3
 ·have ht1 := Aside0.mk (decide_eq_true ht)
  by_cases h1 : 1 ≤ a.length
  ·have h1a : ((a.length : Int) < 1) = False := eq_false (by omega)
   have hwl : wrap64 ((a.length : Int) - 1) = (a.length : Int) - 1 := by unfold wrap64; omega
   cases hx : okX a.length s with
   | false =>
    have hr : okF t s a b = false := by unfold okF; rw [hx, Bool.and_false, Bool.false_and, Bool.false_and]
    rw [hr]
    go_enter Tryd.func144, Tryd.ntmps144
    go_wp2_with (first
     | (go_at_call 119; (with_reducible refine (hin.out t 1 3 _).mono ?_); go_loud (
       rintro e w1 ⟨he, hb1⟩
       rw [ht1.out] at he
       subst he
       have n1 := at_cell hb1 m1
       have n2 := at_cell hb1 m3))
     | (go_at_call 119; (with_reducible refine (hin.out s 0 ((a.length : Int) - 1) _).mono ?_); go_loud (
       rintro e w2 ⟨he, hb2⟩
       rw [in_x h1 ha, hx] at he
       subst he
       have hB2 := below_step hb1 hb2)))
    go_ret
    exact ⟨rfl, hB2⟩
   | true =>
    by_cases hl : b.length = a.length
    ·have hr : okF t s a b = b.all (okW t a.length) := by unfold okF; rw [decide_eq_true ht, decide_eq_true h1, hx, decide_eq_true hl]; simp
     rw [hr]
     have hl1 : ((b.length : Int) = (a.length : Int)) = True := eq_true (by omega)
     have hl2 : ((b.length : Int) == (a.length : Int)) = true := by simp <;> omega
     have hl3 : ((b.length : Int) != (a.length : Int)) = false := by simp <;> omega
     have hlq := Aside0.mk hl
     clear hl
     go_enter Tryd.func144, Tryd.ntmps144
     go_wp2_with (first
      | (go_at_call 119; (with_reducible refine (hin.out t 1 3 _).mono ?_); go_loud (
        rintro e w1 ⟨he, hb1⟩
        rw [ht1.out] at he
        subst he
        have n1 := at_cell hb1 m1
        have n2 := at_cell hb1 m3))
      | (go_at_call 119; (with_reducible refine (hin.out s 0 ((a.length : Int) - 1) _).mono ?_); go_loud (
        rintro e w2 ⟨he, hb2⟩
        rw [in_x h1 ha, hx] at he
        subst he
        have hB2 := below_step hb1 hb2
        have n3 := at_cell hB2 m3)))
     have hwl2 := Aside0.mk hwl
     have hx2 := Aside0.mk hx
     clear hl1 hl2 hl3 n1 n2 n3 hwl hb1 hb2 hx hr
     go_loopg [4] b.length (fun kq v4 W => ∃ i : Nat, v4 = .int .i64 (i : Int) ∧ Aside0 (kq = b.length - i) ∧ i ≤ b.length ∧ Aside0 ((b.take i).all (okW t a.length) = true) ∧ Aside0 (Below w.heap.size w W))
     case atStart => exact ⟨0, rfl, ⟨rfl⟩, Nat.zero_le _, ⟨rfl⟩, ⟨hB2⟩⟩
     case round =>
      clear hB2
      obtain ⟨wo, rfl⟩ : ∃ wo : World, wo = wr := ⟨_, rfl⟩
      obtain ⟨i, rfl, hk, hil, hall, hb⟩ := hrel
      have o0 := at_cell hb.out m0
      have o3 := at_cell hb.out m3
      by_cases hi : i < b.length
      ·obtain ⟨ad, rfl, A9, c9, e9, hl9, hC9⟩ := at_row h3 i hi
       have o9 := at_cell hb.out e9
       have hi1 : ((i : Int) < (b.length : Int)) = True := eq_true (by omega)
       have h0i : (0 ≤ (i : Int)) = True := eq_true (by omega)
       obtain ⟨r, hr⟩ : ∃ r, b[i] = r := ⟨_, rfl⟩
       have hrm : r ∈ b := by rw [← hr]; exact List.getElem_mem hi
       have hrl := hs r hrm
       have hr2 := Aside0.mk hr
       rw [hr] at o9 hl9 hC9
       clear e9 hr
       go_wp2_with fail
       by_cases hw : r.length = wdOf t.toNat
       ·have hw1 : ((r.length : Int) = ((wdOf t.toNat : Nat) : Int)) = True := eq_true (by omega)
        have hw2 : ((r.length : Int) == ((wdOf t.toNat : Nat) : Int)) = true := by simp <;> omega
        have hw3 : ((r.length : Int) != ((wdOf t.toNat : Nat) : Int)) = false := by simp <;> omega
        go_quiet ((go_at_call 60; (with_reducible refine (wide_specQ (by omega) ht.2 _).mono ?_); rintro e w' ⟨rfl, ⟨nd, rfl⟩⟩; (try first | exact ⟨rfl, _, World.drewN_drewN _ _ _⟩ | exact ⟨rfl, _, Eq.trans (World.drewN_drewN _ _ _) (congrArg (World.drewN _) (Nat.add_assoc _ _ _))⟩)))
        generalize nq = n1
        have hb3 := below_step hb.out (pw_below_drewN (Below.refl _ _) n1)
        have hHB := Aside0.mk hb3
        clear hw1 hw2 hw3 o0 o3 o9 hi1 h0i hb3
        generalize wo.drewN n1 = wp at *
        go_wp2_with fail
        go_loopg [5] r.length (fun kz v5 W => ∃ c : Nat, v5 = .int .i64 (c : Int) ∧ Aside0 (kz = r.length - c) ∧ c ≤ r.length ∧ Aside0 ((r.take c).all (okX a.length) = true) ∧ Aside0 (Below w.heap.size w W))
        case atStart => exact ⟨0, rfl, ⟨rfl⟩, Nat.zero_le _, ⟨rfl⟩, hHB⟩
        case round =>
         clear hHB
         obtain ⟨c, rfl, hkz, hcl, hac, hbz⟩ := hrel
         have o3 := at_cell hbz.out m3
         obtain ⟨ad2, e2, A8, c8, e8, hl8, hC8⟩ := at_row h3 i hi
         cases e2
         rw [hr2.out] at e8 hl8 hC8
         have o8 := at_cell hbz.out e8
         have hi1 : ((i : Int) < (b.length : Int)) = True := eq_true (by omega)
         have h0i : (0 ≤ (i : Int)) = True := eq_true (by omega)
         by_cases hc : c < r.length
         ·obtain ⟨ad3, rfl, e7⟩ := at_num hC8 c hc
          have o7 := at_cell hbz.out e7
          obtain ⟨x, hxe⟩ : ∃ x, r[c] = x := ⟨_, rfl⟩
          rw [hxe] at o7
          have hxe2 := Aside0.mk hxe
          have hc1 : ((c : Int) < (r.length : Int)) = True := eq_true (by omega)
          have h0c : (0 ≤ (c : Int)) = True := eq_true (by omega)
          clear e8 e7 hxe
          have hwl := hwl2.out
          cases hxx : okX a.length x with
          | true =>
           go_wp2_with (go_at_call 119; (with_reducible refine (hin.out x 0 ((a.length : Int) - 1) _).mono ?_); go_loud (
            rintro e w2 ⟨he, hb2⟩
            rw [in_x h1 ha, hxx] at he
            subst he
            have hB2 := below_step hbz.out hb2))
           clear hwl
           go_roundg (r.length - (c + 1))
           case measure => have := hkz.out; omega
           case rel => exact ⟨c + 1, (by go_num), ⟨rfl⟩, by omega, ⟨all_take hc hac.out (by rw [hxe2.out]; exact hxx)⟩, ⟨hB2⟩⟩
          | false =>
           go_wp2_with (go_at_call 119; (with_reducible refine (hin.out x 0 ((a.length : Int) - 1) _).mono ?_); go_loud (
            rintro e w2 ⟨he, hb2⟩
            rw [in_x h1 ha, hxx] at he
            subst he
            have hB2 := below_step hbz.out hb2))
           go_ret
           have hf : r.all (okX a.length) = false := all_false (by rw [← hxe2.out]; exact List.getElem_mem hc) hxx
           have hf2 : b.all (okW t a.length) = false := all_false hrm (by unfold okW; rw [hf, Bool.and_false])
           rw [hf2]
           exact ⟨rfl, hB2⟩
         ·have hc1 : ((c : Int) < (r.length : Int)) = False := eq_false (by omega)
          have hac2 := hac.out
          rw [List.take_of_length_le (by omega)] at hac2
          clear e8
          go_wp2_with fail
          go_roundg (b.length - (i + 1))
          case measure => have := hk.out; omega
          case rel => exact ⟨i + 1, (by go_num), ⟨rfl⟩, by omega, ⟨all_take hi hall.out (by rw [hr2.out]; unfold okW; rw [decide_eq_true hw, hac2]; rfl)⟩, hbz⟩
       ·have hw1 : ((r.length : Int) = ((wdOf t.toNat : Nat) : Int)) = False := eq_false (by omega)
        have hw2 : ((r.length : Int) == ((wdOf t.toNat : Nat) : Int)) = false := by simp <;> omega
        have hw3 : ((r.length : Int) != ((wdOf t.toNat : Nat) : Int)) = true := by simp <;> omega
        go_quiet ((go_at_call 60; (with_reducible refine (wide_specQ (by omega) ht.2 _).mono ?_); rintro e w' ⟨rfl, ⟨nd, rfl⟩⟩; (try first | exact ⟨rfl, _, World.drewN_drewN _ _ _⟩ | exact ⟨rfl, _, Eq.trans (World.drewN_drewN _ _ _) (congrArg (World.drewN _) (Nat.add_assoc _ _ _))⟩)))
        have hb3 := below_step hb.out (pw_below_drewN (Below.refl _ _) nq)
        go_wp2_with fail
        go_ret
        have hf2 : b.all (okW t a.length) = false := all_false hrm (by unfold okW; rw [decide_eq_false hw, Bool.false_and])
        rw [hf2]
        exact ⟨rfl, hb3⟩
      ·have hi1 : ((i : Int) < (b.length : Int)) = False := eq_false (by omega)
       have hall2 := hall.out
       rw [List.take_of_length_le (by omega)] at hall2
       go_wp2_with fail
       go_ret
       rw [hall2]
       exact ⟨rfl, hb.out⟩
    ·have hr : okF t s a b = false := by unfold okF; rw [decide_eq_false hl, Bool.and_false, Bool.false_and]
     rw [hr]
     have hl1 : ((b.length : Int) = (a.length : Int)) = False := eq_false (by omega)
     have hl2 : ((b.length : Int) == (a.length : Int)) = false := by simp <;> omega
     have hl3 : ((b.length : Int) != (a.length : Int)) = true := by simp <;> omega
     go_enter Tryd.func144, Tryd.ntmps144
     go_wp2_with (first
      | (go_at_call 119; (with_reducible refine (hin.out t 1 3 _).mono ?_); go_loud (
        rintro e w1 ⟨he, hb1⟩
        rw [ht1.out] at he
        subst he
        have n1 := at_cell hb1 m1
        have n2 := at_cell hb1 m3))
      | (go_at_call 119; (with_reducible refine (hin.out s 0 ((a.length : Int) - 1) _).mono ?_); go_loud (
        rintro e w2 ⟨he, hb2⟩
        rw [in_x h1 ha, hx] at he
        subst he
        have hB2 := below_step hb1 hb2
        have n3 := at_cell hB2 m3)))
     go_ret
     exact ⟨rfl, hB2⟩
  ·have h1a : ((a.length : Int) < 1) = True := eq_true (by omega)
   have hr : okF t s a b = false := by unfold okF; rw [decide_eq_false h1, Bool.and_false, Bool.false_and, Bool.false_and, Bool.false_and]
   rw [hr]
   go_enter Tryd.func144, Tryd.ntmps144
   go_wp2_with (go_at_call 119; (with_reducible refine (hin.out t 1 3 _).mono ?_); go_loud (
     rintro e w1 ⟨he, hb1⟩
     rw [ht1.out] at he
     subst he))
   go_ret
   exact ⟨rfl, hb1⟩
 ·have ht1 := Aside0.mk (decide_eq_false ht)
  have hr : okF t s a b = false := by unfold okF; rw [decide_eq_false ht, Bool.false_and, Bool.false_and, Bool.false_and, Bool.false_and]
  rw [hr]
  go_enter Tryd.func144, Tryd.ntmps144
  go_wp2_with (go_at_call 119; (with_reducible refine (hin.out t 1 3 _).mono ?_); go_loud (
    rintro e w1 ⟨he, hb1⟩
    rw [ht1.out] at he
    subst he))
  go_ret
  exact ⟨rfl, hb1⟩
def okR (t s : Int) (a : List Bool) (b : List (List Int)) : Bool := decide (a.length ≤ 150) && okF t s a b
theorem okR_of (t s : Int) (a : List Bool) (b : List (List Int)) : okR t s a b = (decide (1 ≤ t ∧ t ≤ 3) && (decide (1 ≤ (a.length : Int) ∧ (a.length : Int) ≤ 150) && (decide (b.length = a.length) && (okX a.length s && b.all (okW t a.length))))) := by
 unfold okR okF
 have e : decide (1 ≤ (a.length : Int) ∧ (a.length : Int) ≤ 150) = (decide (1 ≤ a.length) && decide (a.length ≤ 150)) := by
  rw [← Bool.decide_and, decide_eq_decide]
  omega
 rw [e]
 cases decide (1 ≤ t ∧ t ≤ 3) <;> cases decide (1 ≤ a.length) <;> cases decide (a.length ≤ 150) <;> cases decide (b.length = a.length) <;> cases okX a.length s <;> simp
set_option maxHeartbeats 4000000 in
/-- The program's test of a relation. -/
theorem valid (t s : Int) (A2 : Option Addr) (c2 : Nat) (a : List Bool) (A3 : Option Addr) (c3 : Nat) (b : List (List Int)) (w : World)
  (h3 : Kd.C (Kd.slice 2 (Kd.int .i64)) w A3 b.length b) (l3 : b.length ≤ c3) (ha : a.length ≤ 1048576) (hb : b.length ≤ 1048576) (hs : ∀ r ∈ b, r.length ≤ 1048576) :
  Calls Tryd.prog 90 #[.agg #[.int .i64 t, .int .i64 s, .slice A2 a.length c2, .slice A3 b.length c3]] w fun e w' => e = .returned (.bool (okR t s a b)) ∧ Below w.heap.size w w' := by
 have hB0 : Below w.heap.size w (w.alloc (.cells #[.int .i64 t, .int .i64 s, .slice A2 a.length c2, .slice A3 b.length c3] 29)) := below_alloc (Below.refl _ _) _
 have hP := blk_new w (.cells #[.int .i64 t, .int .i64 s, .slice A2 a.length c2, .slice A3 b.length c3] 29)
 have m0 : (w.alloc (.cells #[.int .i64 t, .int .i64 s, .slice A2 a.length c2, .slice A3 b.length c3] 29)).cell? ⟨w.heap.size, 0, none⟩ = some (.int .i64 t) := (blk_cell hP 0).trans rfl
 have m1 : (w.alloc (.cells #[.int .i64 t, .int .i64 s, .slice A2 a.length c2, .slice A3 b.length c3] 29)).cell? ⟨w.heap.size, 1, none⟩ = some (.int .i64 s) := (blk_cell hP 1).trans rfl
 have m2 : (w.alloc (.cells #[.int .i64 t, .int .i64 s, .slice A2 a.length c2, .slice A3 b.length c3] 29)).cell? ⟨w.heap.size, 2, none⟩ = some (.slice A2 a.length c2) := (blk_cell hP 2).trans rfl
 have m3 : (w.alloc (.cells #[.int .i64 t, .int .i64 s, .slice A2 a.length c2, .slice A3 b.length c3] 29)).cell? ⟨w.heap.size, 3, none⟩ = some (.slice A3 b.length c3) := (blk_cell hP 3).trans rfl
 have hin := Aside0.mk in_impl
 rw [okR_of]
 cases ht : decide (1 ≤ t ∧ t ≤ 3) with
 | false =>
  rw [Bool.false_and]
  have ht1 := Aside0.mk ht
  go_enter Tryd.func90, Tryd.ntmps90
  go_wp2_with (go_at_call 146; (with_reducible refine (tapes_impl t _).mono ?_); go_loud (
   rintro e w1 ⟨he, hb1⟩
   rw [ht1.out] at he
   subst he
   have k1 := at_cell hb1 m3))
  go_ret
  exact ⟨rfl, below_step hB0 hb1⟩
 | true =>
 rw [Bool.true_and]
 have ht1 := Aside0.mk ht
 have ht2 := Aside0.mk (of_decide_eq_true ht)
 clear ht
 cases h1 : decide (1 ≤ (a.length : Int) ∧ (a.length : Int) ≤ 150) with
 | false =>
  rw [Bool.false_and]
  have h12 := Aside0.mk h1
  clear h1
  go_enter Tryd.func90, Tryd.ntmps90
  go_wp2_with (first | (go_at_call 146; (with_reducible refine (tapes_impl t _).mono ?_); go_loud (
   rintro e w1 ⟨he, hb1⟩
   rw [ht1.out] at he
   subst he
   have k1 := at_cell hb1 m3)) | (go_at_call 123; (with_reducible refine (hin.out (a.length : Int) 1 150 _).mono ?_); go_loud (
   rintro e w2 ⟨he, hb2⟩
   rw [h12.out] at he
   subst he
   have k2 := at_cell (below_step hb1 hb2) m3
   have k3 := at_cell (below_step hb1 hb2) m1
   have hB2 := below_step hB0 (below_step hb1 hb2))))
  go_ret
  exact ⟨rfl, hB2⟩
 | true =>
 rw [Bool.true_and]
 have h12 := Aside0.mk h1
 have h13 : 1 ≤ a.length ∧ a.length ≤ 150 := by have := of_decide_eq_true h1; omega
 clear h1
 by_cases hl : b.length = a.length
 case neg =>
  have hl1 : ((b.length : Int) = (a.length : Int)) = False := eq_false (by omega)
  have hl2 : ((b.length : Int) == (a.length : Int)) = false := by simp <;> omega
  have hl3 : ((b.length : Int) != (a.length : Int)) = true := by simp <;> omega
  rw [decide_eq_false hl, Bool.false_and]
  go_enter Tryd.func90, Tryd.ntmps90
  go_wp2_with (first | (go_at_call 146; (with_reducible refine (tapes_impl t _).mono ?_); go_loud (
   rintro e w1 ⟨he, hb1⟩
   rw [ht1.out] at he
   subst he
   have k1 := at_cell hb1 m3)) | (go_at_call 123; (with_reducible refine (hin.out (a.length : Int) 1 150 _).mono ?_); go_loud (
   rintro e w2 ⟨he, hb2⟩
   rw [h12.out] at he
   subst he
   have k2 := at_cell (below_step hb1 hb2) m3
   have k3 := at_cell (below_step hb1 hb2) m1
   have hB2 := below_step hB0 (below_step hb1 hb2))))
  go_ret
  exact ⟨rfl, hB2⟩
 have hl1 : ((b.length : Int) = (a.length : Int)) = True := eq_true (by omega)
 have hl2 : ((b.length : Int) == (a.length : Int)) = true := by simp <;> omega
 have hl3 : ((b.length : Int) != (a.length : Int)) = false := by simp <;> omega
 have hwl : wrap64 ((a.length : Int) - 1) = (a.length : Int) - 1 := by unfold wrap64; omega
 rw [decide_eq_true hl, Bool.true_and]
 clear hl
 cases hx : okX a.length s with
 | false =>
  rw [Bool.false_and]
  have hx2 := Aside0.mk hx
  clear hx
  go_enter Tryd.func90, Tryd.ntmps90
  go_wp2_with (first | (go_at_call 146; (with_reducible refine (tapes_impl t _).mono ?_); go_loud (
   rintro e w1 ⟨he, hb1⟩
   rw [ht1.out] at he
   subst he
   have k1 := at_cell hb1 m3)) | (go_at_call 123; (with_reducible refine (hin.out (a.length : Int) 1 150 _).mono ?_); go_loud (
   rintro e w2 ⟨he, hb2⟩
   rw [h12.out] at he
   subst he
   have k2 := at_cell (below_step hb1 hb2) m3
   have k3 := at_cell (below_step hb1 hb2) m1
   have hB2 := below_step hB0 (below_step hb1 hb2))) | (go_at_call 123; (with_reducible refine (hin.out s 0 ((a.length : Int) - 1) _).mono ?_); go_loud (
   rintro e w3 ⟨he, hb3⟩
   rw [in_x h13.1 ha, hx2.out] at he
   subst he
   have k4 := at_cell (below_step (below_step hb1 hb2) hb3) m3
   have k5 := at_cell (below_step (below_step hb1 hb2) hb3) m1
   have hBB := Aside0.mk (below_step (below_step hb1 hb2) hb3)
   have hB3 := below_step hB2 hb3)))
  go_ret
  exact ⟨rfl, hB3⟩
 | true =>
 rw [Bool.true_and]
 have hx2 := Aside0.mk hx
 clear hx
 go_enter Tryd.func90, Tryd.ntmps90
 go_wp2_with (first | (go_at_call 146; (with_reducible refine (tapes_impl t _).mono ?_); go_loud (
   rintro e w1 ⟨he, hb1⟩
   rw [ht1.out] at he
   subst he
   have k1 := at_cell hb1 m3)) | (go_at_call 123; (with_reducible refine (hin.out (a.length : Int) 1 150 _).mono ?_); go_loud (
   rintro e w2 ⟨he, hb2⟩
   rw [h12.out] at he
   subst he
   have k2 := at_cell (below_step hb1 hb2) m3
   have k3 := at_cell (below_step hb1 hb2) m1
   have hB2 := below_step hB0 (below_step hb1 hb2))) | (go_at_call 123; (with_reducible refine (hin.out s 0 ((a.length : Int) - 1) _).mono ?_); go_loud (
   rintro e w3 ⟨he, hb3⟩
   rw [in_x h13.1 ha, hx2.out] at he
   subst he
   have k4 := at_cell (below_step (below_step hb1 hb2) hb3) m3
   have k5 := at_cell (below_step (below_step hb1 hb2) hb3) m1
   have hBB := Aside0.mk (below_step (below_step hb1 hb2) hb3)
   have hB3 := below_step hB2 hb3)))
 have hwl2 := Aside0.mk hwl
 have hb4 := Aside0.mk hb3
 clear hl1 hl2 hl3 hwl hb1 hb2 hb3 k1 k2 k3 k4 k5 hB2 hB3
 have hBz : Below (w.alloc (.cells #[.int .i64 t, .int .i64 s, .slice A2 a.length c2, .slice A3 b.length c3] 29)).heap.size (w.alloc (.cells #[.int .i64 t, .int .i64 s, .slice A2 a.length c2, .slice A3 b.length c3] 29)) w3 := hBB.out
 clear hBB hb4
 go_loopg [38] b.length (fun kq v38 W => ∃ i : Nat, v38 = .int .i64 (i : Int) ∧ Aside0 (kq = b.length - i) ∧ i ≤ b.length ∧ Aside0 ((b.take i).all (okW t a.length) = true) ∧ Aside0 (Below (w.alloc (.cells #[.int .i64 t, .int .i64 s, .slice A2 a.length c2, .slice A3 b.length c3] 29)).heap.size (w.alloc (.cells #[.int .i64 t, .int .i64 s, .slice A2 a.length c2, .slice A3 b.length c3] 29)) W))
 case atStart => exact ⟨0, rfl, ⟨rfl⟩, Nat.zero_le _, ⟨rfl⟩, ⟨hBz⟩⟩
 case round =>
  clear hBz
  obtain ⟨wo, rfl⟩ : ∃ wo : World, wo = wr := ⟨_, rfl⟩
  obtain ⟨i, rfl, hk, hil, hall, hbo⟩ := hrel
  have o0 := at_cell hbo.out m0
  by_cases hi : i < b.length
  ·obtain ⟨ad, rfl, A9, c9, e9, hl9, hC9⟩ := at_row h3 i hi
   have o9 := at_cell (below_step hB0 hbo.out) e9
   have hi1 : ((i : Int) < (b.length : Int)) = True := eq_true (by omega)
   have h0i : (0 ≤ (i : Int)) = True := eq_true (by omega)
   obtain ⟨r, hr⟩ : ∃ r, b[i] = r := ⟨_, rfl⟩
   have hrm : r ∈ b := by rw [← hr]; exact List.getElem_mem hi
   have hrl := hs r hrm
   have hr2 := Aside0.mk hr
   rw [hr] at o9 hl9 hC9
   clear e9 hr
   by_cases hw : r.length = wdOf t.toNat
   ·have hw1 : ((r.length : Int) = ((wdOf t.toNat : Nat) : Int)) = True := eq_true (by omega)
    have hw2 : ((r.length : Int) == ((wdOf t.toNat : Nat) : Int)) = true := by simp <;> omega
    have hw3 : ((r.length : Int) != ((wdOf t.toNat : Nat) : Int)) = false := by simp <;> omega
    have hwq := Aside0.mk hw
    clear hw
    go_wp2_with (go_at_call 124; (with_reducible refine (wide_impl (by have := ht2.out; omega) ht2.out.2 _).mono ?_); go_loud (
     rintro e w4 ⟨rfl, hb4⟩))
    have hHB := Aside0.mk (below_step hbo.out hb4)
    clear hw1 hw2 hw3 o0 o9 hb4
    go_loopg [50] r.length (fun kz v50 W => ∃ c : Nat, v50 = .int .i64 (c : Int) ∧ Aside0 (kz = r.length - c) ∧ c ≤ r.length ∧ Aside0 ((r.take c).all (okX a.length) = true) ∧ Aside0 (Below (w.alloc (.cells #[.int .i64 t, .int .i64 s, .slice A2 a.length c2, .slice (some ad) b.length c3] 29)).heap.size (w.alloc (.cells #[.int .i64 t, .int .i64 s, .slice A2 a.length c2, .slice (some ad) b.length c3] 29)) W))
    case atStart => exact ⟨0, rfl, ⟨rfl⟩, Nat.zero_le _, ⟨rfl⟩, hHB⟩
    case round =>
     clear hHB
     obtain ⟨c, rfl, hkz, hcl, hac, hbz⟩ := hrel
     by_cases hc : c < r.length
     ·obtain ⟨ad3, rfl, e7⟩ := at_num hC9 c hc
      have o7 := at_cell (below_step hB0 hbz.out) e7
      obtain ⟨x, hxe⟩ : ∃ x, r[c] = x := ⟨_, rfl⟩
      rw [hxe] at o7
      have hxe2 := Aside0.mk hxe
      have hc1 : ((c : Int) < (r.length : Int)) = True := eq_true (by omega)
      have h0c : (0 ≤ (c : Int)) = True := eq_true (by omega)
      clear e7 hxe
      have hwl := hwl2.out
      cases hxx : okX a.length x with
      | true =>
       go_wp2_with (go_at_call 123; (with_reducible refine (hin.out x 0 ((a.length : Int) - 1) _).mono ?_); go_loud (
        rintro e w2 ⟨he, hb2⟩
        rw [in_x h13.1 ha, hxx] at he
        subst he
        have hB2 := below_step hbz.out hb2))
       clear hwl
       go_roundg (r.length - (c + 1))
       case measure => have := hkz.out; omega
       case rel => exact ⟨c + 1, (by go_num), ⟨rfl⟩, by omega, ⟨all_take hc hac.out (by rw [hxe2.out]; exact hxx)⟩, ⟨hB2⟩⟩
      | false =>
       go_wp2_with (go_at_call 123; (with_reducible refine (hin.out x 0 ((a.length : Int) - 1) _).mono ?_); go_loud (
        rintro e w2 ⟨he, hb2⟩
        rw [in_x h13.1 ha, hxx] at he
        subst he
        have hB2 := below_step hbz.out hb2))
       go_ret
       have hf : r.all (okX a.length) = false := all_false (by rw [← hxe2.out]; exact List.getElem_mem hc) hxx
       have hf2 : b.all (okW t a.length) = false := all_false hrm (by unfold okW; rw [hf, Bool.and_false])
       rw [hf2]
       exact ⟨rfl, below_step hB0 hB2⟩
     ·have hc1 : ((c : Int) < (r.length : Int)) = False := eq_false (by omega)
      have hac2 := hac.out
      rw [List.take_of_length_le (by omega)] at hac2
      go_wp2_with fail
      go_roundg (b.length - (i + 1))
      case measure => have := hk.out; omega
      case rel => exact ⟨i + 1, (by go_num), ⟨rfl⟩, by omega, ⟨all_take hi hall.out (by rw [hr2.out]; unfold okW; rw [decide_eq_true hwq.out, hac2]; rfl)⟩, hbz⟩
   ·have hw1 : ((r.length : Int) = ((wdOf t.toNat : Nat) : Int)) = False := eq_false (by omega)
    have hw2 : ((r.length : Int) == ((wdOf t.toNat : Nat) : Int)) = false := by simp <;> omega
    have hw3 : ((r.length : Int) != ((wdOf t.toNat : Nat) : Int)) = true := by simp <;> omega
    go_wp2_with (go_at_call 124; (with_reducible refine (wide_impl (by have := ht2.out; omega) ht2.out.2 _).mono ?_); go_loud (
     rintro e w4 ⟨rfl, hb4⟩))
    go_ret
    have hf2 : b.all (okW t a.length) = false := all_false hrm (by unfold okW; rw [decide_eq_false hw, Bool.false_and])
    rw [hf2]
    exact ⟨rfl, below_step (below_step hB0 hbo.out) hb4⟩
  ·have hi1 : ((i : Int) < (b.length : Int)) = False := eq_false (by omega)
   have hall2 := hall.out
   rw [List.take_of_length_le (by omega)] at hall2
   go_wp2_with fail
   go_ret
   rw [hall2]
   exact ⟨rfl, below_step hB0 hbo.out⟩
end Go.Proofs.YtbamnonamdpooaaDoor.Lr
namespace Go.Proofs.YtbamnonamdpooaaDoor.Rw
set_option linter.unusedVariables false
set_option linter.unusedSimpArgs false
open Go.RowKit Go.Proofs.YtbamnonamdpooaaDoorW.PrintWords Go.Proofs.YtbamnonamdpooaaDoorW.PrintLast Go.Proofs.YtbamnonamdpooaaDoorW.PrintMore Go.Proofs.YtbamnonamdpooaaDoor.Mp Go.Proofs.YtbamnonamdpooaaDoor.Kp Go.Proofs.YtbamnonamdpooaaDoor.PL1 Go.Proofs.YtbamnonamdpooaaDoor.Pure
abbrev Row : Kd (List Int) := Kd.slice 2 (Kd.int .i64)
theorem info_row : (Tryd.prog.info? 86).map (fun i => (i.zero, i.size, i.bytes)) = some (some (.slice none 0 0), 1, 24) := by kernel_rfl
theorem set_row (l : List (List Int)) {i : Nat} (hi : i < l.length) : (l.take i ++ List.replicate (l.length - i) []).set i l[i] = l.take (i + 1) ++ List.replicate (l.length - (i + 1)) [] := by
 have e : l.length - i = (l.length - (i + 1)) + 1 := by omega
 have ht : (l.take i).length = i := by simp; omega
 rw [e, List.replicate_succ, List.set_append_right _ _ (by omega), ht, Nat.sub_self, List.set_cons_zero, List.take_succ_eq_append_getElem hi, List.append_assoc]
 rfl
/-- A new row is put into a row of rows. -/
theorem put_row {w0 w w1 : World} {g n cap i : Nat} {v5 : Value} {r : List Int} {ys : List (List Int)} (h : Kd.S Row 86 w w0.heap.size (fun _ => True) (.slice (some ⟨g, 0, none⟩) n cap) ys) (hn : i < n)
  (hR : (Kd.int .i64).R 2 w1 w.heap.size (fun _ => True) v5 r) (hb : Below w.heap.size w w1) (hw : w0.heap.size ≤ w.heap.size) :
  (∃ ve, w1.cell? ⟨g, i, none⟩ = some ve) ∧ w1.frozen? ⟨g, i, none⟩ = false ∧ Kd.S Row 86 (w1.setCell ⟨g, i, none⟩ v5) w0.heap.size (fun _ => True) (.slice (some ⟨g, 0, none⟩) n cap) (ys.set i r) := by
 have h1 := Kd.S_elder' h (Kd.R_base hR) hb
 have hT := Kd.S_typed h1
 have h2 : Kd.S Row 86 w1 w0.heap.size (fun k => (fun _ => True) k ∧ ¬ (fun k => some k = v5.ownBlock) k) (.slice (some ⟨g, 0, none⟩) n cap) ys := Kd.S_mono h1 (fun k hk => ⟨trivial, fun e => hk.2 e⟩)
 obtain ⟨oki, ce, hcl, hM, hcc, hfr, hoki, hH⟩ := Kd.S_elem h2 [] (i : Int) (by omega) (by omega)
 have hR2 := Kd.R_lower hR hw
 have hap := Kd.R_mono (ok' := fun k => (fun _ => True) k ∧ k ≠ g) (Kd.R_apart' hR2 hT (by decide)) (fun k hk => ⟨trivial, fun e => hk.2 (by rw [e]; rfl)⟩)
 obtain ⟨ve, rfl, ge⟩ := hM
 have hP := Kd.S_seg hH (by omega) (by omega) (seg := [v5]) (j := 0) (show 1 ≤ 1 from by decide) (x' := r) (Kd.M_row (Kd.R_mono (Kd.R_tight rfl hap) (fun _ h => Or.inr h))) (fun _ hk => hk) (fun k hk => hap.1 k hk.symm)
 have hc0 := hcc 0 _ rfl
 have hf0 := hfr 0
 have es : Row.sz = 1 := rfl
 simp only [es, Nat.mul_one, Nat.add_zero, Int.toNat_natCast] at hc0 hf0 hP
 exact ⟨⟨_, hc0⟩, hf0, hP.1⟩
set_option maxHeartbeats 2000000 in
set_option maxRecDepth 100000 in
theorem toRows (A0 : Option Addr) (c0 : Nat) (l0 : List (List Int)) (w : World) (hr0 : Kd.C Row w A0 l0.length l0) (hc0 : l0.length ≤ c0) (hl : l0.length ≤ 1048576)
  (hcall : ∀ W A c (r : List Int), r ∈ l0 → Kd.C (Kd.int .i64) W A r.length r → r.length ≤ c → Calls Tryd.prog 112 #[.slice A r.length c] W fun e W' => ∃ v, e = .returned v ∧ (Kd.int .i64).R 2 W' W.heap.size (fun _ => True) v r ∧ Below W.heap.size W W') :
  Calls Tryd.prog 51 #[.slice A0 l0.length c0] w fun e w' => ∃ v, e = .returned v ∧ Kd.S Row 86 w' w.heap.size (fun _ => True) v l0 ∧ Below w.heap.size w w' := by
 have hcal := Aside0.mk hcall
 clear hcall
 go_enter Tryd.func51, Tryd.ntmps51
 go_wp2_with ((with_reducible refine gate_dst (N := 7) rfl ?_); go_loud (
  refine Kd.S_make Row (w0 := w) w.heap.size 86 rfl (N := 7) rfl 23 _ _ rfl (l0.length : Int) rfl rfl Tryd.underlying23 (.slice none 0 0) 24 info_row rfl (by decide) (by decide) [] (ok := fun _ => True) (okp := fun _ => False) ⟨_, rfl, Kd.R_nil _ _ _ _ _⟩ (fun _ h => h.elim) trivial (by omega) (by simp; omega) (Below.refl _ _) (Nat.le_refl _) ?_
  intro v1 w1 hS1 hb1 hg1 hn1
  rw [Int.toNat_natCast] at hS1
  obtain ⟨A1, c1, hv1⟩ := Kd.S_slice hS1
  rw [List.length_replicate] at hv1
  subst hv1))
 clear hg1 hn1
 go_loopg [4] l0.length (fun kq v4 W => ∃ i : Nat, v4 = .int .i64 (i : Int) ∧ Aside0 (kq = l0.length - i) ∧ i ≤ l0.length ∧ Aside0 (Kd.S Row 86 W w.heap.size (fun _ => True) (.slice A1 l0.length c1) (l0.take i ++ List.replicate (l0.length - i) [])) ∧ Aside0 (Below w.heap.size w W))
 case atStart => exact ⟨0, rfl, ⟨rfl⟩, Nat.zero_le _, ⟨by simpa using hS1⟩, ⟨hb1⟩⟩
 case round =>
  clear hS1 hb1
  obtain ⟨i, rfl, hk, hil, hS, hb⟩ := hrel
  by_cases hi : i < l0.length
  ·obtain ⟨ad, rfl, A9, c9, e9, hl9, hC9⟩ := at_row hr0 i hi
   have e9' := (hb.out.cell (World.block_lt_of_cell? w _ e9)).trans e9
   have hi1 : ((i : Int) < (l0.length : Int)) = True := eq_true (by omega)
   have h0i : (0 ≤ (i : Int)) = True := eq_true (by omega)
   obtain ⟨g, cg, hvg, hgb, hgl, cells, hcg⟩ := Kd.S_form hS.out (by simp; omega)
   obtain ⟨rfl, rfl⟩ : A1 = some ⟨g, 0, none⟩ ∧ c1 = cg := by
    simp only [Value.slice.injEq] at hvg
    exact ⟨hvg.1, hvg.2.2⟩
   obtain ⟨r, hr⟩ : ∃ r, l0[i] = r := ⟨_, rfl⟩
   have hrm : r ∈ l0 := by rw [← hr]; exact List.getElem_mem hi
   have hst := Aside0.mk (set_row l0 hi)
   rw [hr] at hst e9' hl9 hC9
   clear hvg hcg cells e9 hr
   go_wp2_with (go_at_call 112; go_loud (
    with_reducible refine (hcal.out _ _ _ r hrm (Kd.C_below hC9 hb.out) hl9).mono ?_
    rintro e w5 ⟨v5, rfl, hR5, hb5⟩
    obtain ⟨⟨ve, hx5⟩, hf5, hP5⟩ := put_row (w0 := w) hS.out (i := i) hi hR5 hb5 (Below.size hb.out)
    have hB5 := (below_step hb.out hb5).setCell (p := ⟨g, i, none⟩) hgb v5
    obtain ⟨A5, c5, hv5⟩ := Kd.R_slice hR5
    subst hv5))
   go_roundg (l0.length - (i + 1))
   case measure => have := hk.out; omega
   case rel => exact ⟨i + 1, (by go_num), ⟨rfl⟩, by omega, ⟨by rw [← hst.out]; exact hP5⟩, ⟨hB5⟩⟩
  ·have hi1 : ((i : Int) < (l0.length : Int)) = False := eq_false (by omega)
   obtain rfl : i = l0.length := by omega
   have hS2 := hS.out
   rw [List.take_of_length_le (Nat.le_refl _), Nat.sub_self, List.replicate_zero, List.append_nil] at hS2
   go_wp2_with fail
   go_ret
   exact ⟨_, rfl, hS2, hb.out⟩
/-! ### told -/
theorem toLongs_ev (xs : List Int) (h : xs.length ≤ 1048576) : Ev (fun k => laws_toInt64S.f k xs) xs := by
 have key := ev_copy (fun k ys i => laws_toInt64S.l0 k xs ys i) xs 0
  (fun ys hy => ev_const (fun k => by simp [laws_toInt64S.l0]))
  (fun i hi ys r hy H => ev_step (fun k => by
   simp only [laws_toInt64S.l0]
   rw [if_pos (by omega), if_pos (by omega), if_pos (by omega), rd_nat xs i hi, wrap_up (by omega), Int.toNat_natCast]) H)
 exact Ev.congr (fun k => by unfold laws_toInt64S.f; rw [if_pos (by omega), if_pos (by simp; omega)]; simp) key
def laws_toInt64SS.f (l0 : List (List Int)) : Option (List (List Int)) := if l0.length ≤ 1048576 ∧ ∀ r ∈ l0, r.length ≤ 1048576 then some l0 else none
theorem laws_toInt64SS.calls (A0 : Option Addr) (c0 : Nat) (l0 : List (List Int)) (r : List (List Int)) (w : World) (hr0 : Kd.C (Kd.slice 2 (Kd.int .i64)) w A0 l0.length l0) (hc0 : l0.length ≤ c0) (h : laws_toInt64SS.f l0 = some r) :
  Calls Tryd.prog 51 #[.slice A0 l0.length c0] w fun e w' => ∃ v0_ : Value, e = .returned (v0_) ∧ Kd.S (Kd.slice 2 (Kd.int .i64)) 86 w' w.heap.size (fun _ => True) v0_ r ∧ Below w.heap.size w w' := by
 unfold laws_toInt64SS.f at h
 split at h
 ·rename_i hh
  obtain rfl := Option.some.inj h
  refine toRows A0 c0 l0 w hr0 hc0 hh.1 (fun W A c r hr hC hc => ?_)
  obtain ⟨k, hk⟩ := (toLongs_ev r (hh.2 r hr)).rounds
  exact laws_toInt64S.calls k A c r r W hC hc hk
 ·cases h
end Go.Proofs.YtbamnonamdpooaaDoor.Rw
