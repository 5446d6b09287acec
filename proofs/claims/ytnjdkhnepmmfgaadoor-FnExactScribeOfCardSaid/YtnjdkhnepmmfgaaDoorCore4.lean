/- Parts of the proof, put together by a program of the session. -/
import Derived.Test.YtnjdkhnepmmfgaaDoorCore0
import Derived.Test.YtnjdkhnepmmfgaaDoorCore3
import Derived.Test.YtnjdkhnepmmfgaaDoorProg
import Derived.Below
import Derived.Deep.Draws
import Derived.Deep.AppendLies
import Derived.Maps.AppendAt
import Derived.OwnWalk
import Derived.Laws.BytesArg
import Derived.Laws.MakeOwn
import Derived.Laws.OwnMore
import Derived.Deep.OwnRows
import Derived.Tactics
import Derived.Lib.ConvBytes
import Derived.Laws.Slices
import Derived.WalkKit
import Derived.KernelRfl
import Derived.RowKit3
import Derived.Deep.LoopGhost
import Derived.Deep.QuietTactic
import Derived.BigQuiet
import Derived.WideLaws
import Derived.Deep.DeepCutAuto
import Derived.Deep.CutBlock
import Derived.Deep.RegionHeld3
import Derived.Laws.Rows
import Derived.Lib.AppendStr
import Derived.ArgAppend
import Derived.Laws.IdiomCopy
import Derived.OrdersHeld
import Derived.Laws.BitsLemmas
import Derived.RowKit
import Derived.ChangeKeysEq
import Derived.Test.YtnjdkhnepmmfgaaDoorCore2
import Derived.Test.YtnjdkhnepmmfgaaDoorCWords
import Derived.Test.YtnjdkhnepmmfgaaDoorCLast
import Derived.Test.YtnjdkhnepmmfgaaDoorCTab
import Derived.Test.YtnjdkhnepmmfgaaDoorCFour
import Derived.Test.YtnjdkhnepmmfgaaDoorCQPut
import Derived.Test.YtnjdkhnepmmfgaaDoorCApart
import Derived.Test.YtnjdkhnepmmfgaaDoorCArr
import Derived.Test.YtnjdkhnepmmfgaaDoorCZeros
import Derived.Test.YtnjdkhnepmmfgaaDoorCFoot
import Derived.Test.YtnjdkhnepmmfgaaDoorCKept
import Derived.Test.YtnjdkhnepmmfgaaDoorCShare
import Derived.Test.YtnjdkhnepmmfgaaDoorCN
import Derived.Test.YtnjdkhnepmmfgaaDoorCFootNe
import Derived.Test.YtnjdkhnepmmfgaaDoorCAt
import Derived.Test.YtnjdkhnepmmfgaaDoorCEqStruct
import Derived.Test.YtnjdkhnepmmfgaaDoorCRepsOne
import Derived.Test.YtnjdkhnepmmfgaaDoorCInv
import Derived.Test.YtnjdkhnepmmfgaaDoorCInvWords
import Derived.Test.YtnjdkhnepmmfgaaDoorCGuard
import Derived.Test.YtnjdkhnepmmfgaaDoorCNEv
import Derived.Test.YtnjdkhnepmmfgaaDoorCMore
namespace Go.Proofs.YtnjdkhnepmmfgaaDoor.Sb
set_option linter.unusedVariables false
set_option linter.unusedSimpArgs false
open Go.RowKit Go.Proofs.YtnjdkhnepmmfgaaDoorW.PrintWords Go.Proofs.YtnjdkhnepmmfgaaDoorW.PrintLast Go.Proofs.YtnjdkhnepmmfgaaDoorW.PrintMore Mp Kp Ky Mg Tdy Rg Tw
/-- What comes out: marks, numbers, letters, whether there is a scribe. -/
def outcome (accs : List Bool) : Option Sc → List Bool × List (List Int) × List (List ByteArray) × Bool
 | none => ([], [], [], false)
 | some s => (s.1.map (acF accs), s.2.1, s.2.2, true)
theorem int_at {W : World} {A : Option Addr} {n : Nat} {l : List Int} (h : (Kd.int .i64).C W A n l) (q : Nat) (hq : q < l.length) : ∃ ad, A = some ad ∧ W.cell? (ad.add q) = some (.int .i64 (l.getD q (-1))) := by
 obtain ⟨ad, e, k⟩ := at_num h q hq
 refine ⟨ad, e, ?_⟩
 rw [k]
 simp [List.getD_eq_getElem?_getD, hq]
theorem li_at {W : World} {e base n c i : Nat} {ok : Nat → Prop} {A : Option Addr} {l : List Nat} (h : (Kd.int .i64).R e W base ok (.slice A n c) (ints l)) (hi : i < l.length) : ∃ ad, A = some ad ∧ W.cell? (ad.add i) = some (.int .i64 (l[i] : Int)) := by
 obtain ⟨_, _, hC⟩ := Kd.R_reads' h
 obtain ⟨ad, e1, k⟩ := at_num hC i (by rw [ints_length]; exact hi)
 rw [ints_get l i _ hi] at k
 exact ⟨ad, e1, k⟩
theorem wrap_b {b : Nat} (h : b < 2) : wrap64 ((b : Int) + 1) = (b : Int) + 1 := by unfold wrap64; omega
theorem two_list {α : Type} {l : List α} (h : l.length = 2) : ∃ x y, l = [x, y] := by
 match l, h with
 | [x, y], _ => exact ⟨x, y, rfl⟩
theorem zero_i64 (w : World) : (zeroValue 2).run Tryd.prog w = .ok (.int .i64 0) w := by kernel_rfl
theorem cell_up {w w' : World} (hb : Below w.heap.size w w') {a : Addr} {v : Value} (hc : w.cell? a = some v) : w'.cell? a = some v := (hb.cell (World.block_lt_of_cell? w a hc)).trans hc
set_option maxHeartbeats 8000000 in
set_option maxRecDepth 100000 in
theorem scribe (tapes : Int) (start : Nat) (accs : List Bool) (rows : List (List Nat)) (hcl : Closed 8 rows accs) (hn : rows.length ≤ 1000000) (hst : start < rows.length)
  (lv : Nat → Bool) (fr : List Int) (hfl : fr.length = rows.length) (hfr : ∀ q, q < rows.length → (fr.getD q (-1) < 0 ↔ lv q = false))
  (w : World) (AA : Option Addr) (ca : Nat) (AN : Option Addr) (cn : Nat) (hA : Kd.C Kd.bool w AA accs.length accs) (hN : Kd.C (Kd.slice 3 (Kd.int .i64)) w AN rows.length (rows.map ints)) (hca : accs.length ≤ ca) (hcn : rows.length ≤ cn)
  (hfar : ∀ W, Below w.heap.size w W → Calls Tryd.prog 85 #[.agg #[.int .i64 tapes, .int .i64 start, .slice AA accs.length ca, .slice AN rows.length cn]] W fun e W' => ∃ v, e = .returned v ∧ Kd.R (Kd.int .i64) 3 W' W.heap.size (fun _ => True) v fr ∧ Below W.heap.size W W')
  (hcol : ∀ W A c (a b : Nat), a ≤ 2 → b ≤ 2 → Kd.C (Kd.int .i64) W A 2 [(a : Int), (b : Int)] → 2 ≤ c → Calls Tryd.prog 86 #[.slice A 2 c] W fun e W' => e = .returned (.int .i64 ((a + 3 * b : Nat) : Int)) ∧ Below W.heap.size W W')
  (hlive : lv start = true) (f : Nat) (res : Option Sc) (hres : scr lv rows f 0 [start] [] [] = some res) :
  Calls Tryd.prog 43 #[.agg #[.int .i64 tapes, .int .i64 start, .slice AA accs.length ca, .slice AN rows.length cn]] w fun e w' => ∃ vA vN vO, e = .returned (.tuple #[.agg #[vA, vN, vO], .bool (outcome accs res).2.2.2]) ∧
   Kd.R Kd.bool 4 w' w.heap.size (fun _ => True) vA (outcome accs res).1 ∧ Kd.R Pair 78 w' w.heap.size (fun _ => True) vN (outcome accs res).2.1 ∧ Kd.R Text2 79 w' w.heap.size (fun _ => True) vO (outcome accs res).2.2.1 ∧ Below w.heap.size w w' := by
 have hmm := @run_makeMap Tryd.prog
 have hk0 : keyOf Tryd.prog 3 (.int .i64 (start : Int)) = some (.int .i64 (start : Int)) := int_key ⟨by omega, by omega⟩
 have hnf : (fr.getD start (-1) < 0) = False := eq_false (fun h => by have h2 := (hfr start hst).1 h; rw [hlive] at h2; cases h2)
 obtain ⟨fS, hfS⟩ : ∃ x, fr.getD start (-1) = x := ⟨_, rfl⟩
 rw [hfS] at hnf
 replace hfS := Aside0.mk hfS
 go_enter Tryd.func43, Tryd.ntmps43
 go_wp2_with (first
  | (go_at_call 85; go_loud (
    have hB0 := below_alloc (below_alloc (Below.refl w.heap.size w) (.cells #[.int .i64 tapes, .int .i64 start, .slice AA accs.length ca, .slice AN rows.length cn] 66)) (.cells #[.slice none 0 0, .slice none 0 0, .slice none 0 0] 37)
    with_reducible refine (hfar _ hB0).mono ?_
    rintro e w1 ⟨vF, rfl, rF, hb1⟩
    have bM := blk_below (blk_alloc (blk_new w (.cells #[.int .i64 tapes, .int .i64 start, .slice AA accs.length ca, .slice AN rows.length cn] 66)) (.cells #[.slice none 0 0, .slice none 0 0, .slice none 0 0] 37)) hb1
    have bR := blk_below (blk_at (w.alloc (.cells #[.int .i64 tapes, .int .i64 start, .slice AA accs.length ca, .slice AN rows.length cn] 66)) (.cells #[.slice none 0 0, .slice none 0 0, .slice none 0 0] 37) (w.heap.size + 1) (by simp)) hb1
    have hB1 := below_step hB0 hb1
    obtain ⟨AF, cF, hvF⟩ := Kd.R_slice rF
    subst hvF
    rw [hfl] at rF
    obtain ⟨hq1, hq2, hCF⟩ := Kd.R_reads' rF
    clear hq1
    rw [hfl] at hCF
    obtain ⟨adF, rfl, kF⟩ := int_at hCF start (by omega)
    rw [hfS.out] at kF
    have m1 : w1.cell? ⟨w.heap.size, 1, none⟩ = some (.int .i64 (start : Int)) := (blk_cell bM 1).trans rfl
    have hst1 : ((start : Int) < (fr.length : Int)) = True := eq_true (by omega)
    have hst2 : ((start : Int) < (rows.length : Int)) = True := eq_true (by omega)
    have h0s : (0 ≤ (start : Int)) = True := eq_true (by omega)
    have m2 : ((w1.alloc (.cells #[.slice none 0 0, .slice none 0 0, .slice none 0 0] 37)).alloc (.map #[] 0)).cell? ⟨w.heap.size, 1, none⟩ = some (.int .i64 (start : Int)) := (blk_cell (blk_alloc (blk_alloc bM _) _) 1).trans rfl))
  | ((with_reducible refine gate_insert rfl ?_); go_loud (
    refine at_put (b := w1.heap.size + 1) (es := []) ?hF int_law rfl _ _ _ 110 2 (Or.inr rfl) Tryd.underlying110 (by decide) rfl _ (.int .i64 0) hk0 rfl rfl (fun p hp => by cases hp) ?hKk
    (case hF => exact FMap.of_empty (blk_at _ _ _ (by simp)))
    intro w2 hF hg
    have hK := Keep.grown hg
    have bX := hK.obj (blk_alloc (blk_new w1 (.cells #[.slice none 0 0, .slice none 0 0, .slice none 0 0] 37)) (.map #[] 0)) (by simp)
    have hbe : Below w1.heap.size w1 w2 := (below_alloc (below_alloc (Below.refl _ _) _) _).grown hg (by simp <;> omega) (fun k hk => by cases hk; omega)
    have m3 : w2.cell? ⟨w.heap.size, 1, none⟩ = some (.int .i64 (start : Int)) := (blk_cell (blk_below bM hbe) 1).trans rfl)))
 have h5 : Mem w1 w1.heap.size (w1.heap.size + 1) none none (ints [start]) (.slice (some ⟨w2.heap.size, 0, none⟩) 1 1) [start] (.slice none 0 0) [] (.slice none 0 0) [] (.slice none 0 0) [] (w2.alloc (.cells #[.int .i64 start] 3)) :=
  ⟨blk_alloc bX _, map_keep hF (Keep.below (below_alloc (Below.refl _ _) _)) (by simp), R_one (Kd.int .i64) _ w2 _ (Below.size hbe) (okp := fun _ => False) (cs := [.int .i64 start]) rfl (fun _ h => h.elim) trivial, Kd.R_nil _ _ _ _ _, Kd.R_nil _ _ _ _ _, Kd.R_nil _ _ _ _ _, Nat.le_refl _, by omega, below_alloc hbe _⟩
 clear hF hg hK bX hbe m1 m2 m3 kF hst1 hst2 h0s hmm hk0
 have hfr2 := Aside0.mk hfr
 have hcol2 := Aside0.mk hcol
 have hA1 := Kd.C_below hA hB1
 have hN1 := Kd.C_below hN hB1
 clear hfr hcol hfar hA hN hB0 hb1
 go_loopg [7, 8] f (fun kf v7 v8 wr => ∃ (i : Nat) (li : List Nat) (nx : List (List Int)) (ot : List (List ByteArray)) (AL : Option Addr) (cL : Nat) (vA vN vO : Value), v7 = .slice AL li.length cL ∧ v8 = .int .i64 (i : Int) ∧ Aside0 (scr lv rows kf i li nx ot = some res) ∧ Aside0 (nx.length = i) ∧ Aside0 (ot.length = i) ∧ i ≤ li.length ∧ Aside0 (∀ q ∈ li, q < rows.length) ∧ Aside0 li.Nodup ∧
  Aside0 (Mem w1 w1.heap.size (w1.heap.size + 1) none none (ints li) (.slice AL li.length cL) li vA ((li.take i).map (acF accs)) vN nx vO ot wr))
 case atStart => exact ⟨0, [start], [], [], _, _, _, _, _, rfl, rfl, ⟨hres⟩, ⟨rfl⟩, ⟨rfl⟩, Nat.zero_le _, ⟨fun q hq => by rw [List.mem_singleton.1 hq]; exact hst⟩, ⟨by simp⟩, ⟨h5⟩⟩
 case round =>
  clear h5
  obtain ⟨wo, rfl⟩ : ∃ wo : World, wo = wr := ⟨_, rfl⟩
  obtain ⟨i, li, nx, ot, AL, cL, vA, vN, vO, rfl, rfl, H, hnl, hol, hil, hQl, hnd, h⟩ := hrel
  replace h := h.out
  cases gk with
  | zero => exact absurd H.out (by simp [scr])
  | succ kf =>
  have H1 := H.out
  unfold scr at H1
  by_cases hlt : i < li.length
  ·rw [dif_pos hlt] at H1
   have HH := Aside0.mk H1
   clear H1 H
   have hlt1 : ((i : Int) < (li.length : Int)) = True := eq_true (by omega)
   have h0i : (0 ≤ (i : Int)) = True := eq_true (by omega)
   go_wp2_with fail
   have h0 : Now w1 w1.heap.size (w1.heap.size + 1) wo.heap.size (wo.heap.size + 1) (.slice AL li.length cL) (li, [-1, -1], [⟨#[]⟩, ⟨#[]⟩]) vA ((li.take i).map (acF accs)) vN nx vO ot ((wo.alloc (.cells #[.int .i64 (-1), .int .i64 (-1)] 78)).alloc (.cells #[.string ⟨#[]⟩, .string ⟨#[]⟩] 79)) :=
    ⟨(h.begin (Nat.le_refl _) (by omega)).step (below_alloc (below_alloc (Below.refl _ _) _) _), blk_alloc (blk_new _ _) _, blk_at _ _ _ (by simp), Below.size h.bel, by have := Below.size h.bel; omega⟩
   generalize (wo.alloc (.cells #[.int .i64 (-1), .int .i64 (-1)] 78)).alloc (.cells #[.string ⟨#[]⟩, .string ⟨#[]⟩] 79) = wn at *
   have hv0 := Inv.start hQl.out hnd.out
   have hli := hv0.le
   obtain ⟨gO, hgO⟩ : ∃ g, wo.heap.size + 1 = g := ⟨_, rfl⟩
   rw [hgO] at h0
   simp only [hgO]
   clear h hgO
   generalize wo.heap.size = gN at *
   obtain ⟨k, hk⟩ : ∃ k, li[i] = k := ⟨_, rfl⟩
   have hkr : k < rows.length := by rw [← hk]; exact hQl.out _ (List.getElem_mem hlt)
   obtain ⟨r, hr⟩ : ∃ r, rows.getD k [] = r := ⟨_, rfl⟩
   have hrk : rows[k] = r := by rw [← hr]; simp [List.getD_eq_getElem?_getD, hkr]
   have hr8 : r.length = 8 := by rw [← hrk]; exact hcl.wide _ (List.getElem_mem hkr)
   have hrl : ∀ q ∈ r, q < rows.length := by rw [← hrk]; exact hcl.lt _ (List.getElem_mem hkr)
   have H2 := HH.out
   rw [hk, hr] at H2
   clear HH
   obtain ⟨rt, hrt⟩ : ∃ rt, rowT lv r li = rt := ⟨_, rfl⟩
   rw [hrt] at H2
   have HH := Aside0.mk H2
   unfold rowT at hrt
   have HR0 := Aside0.mk hrt
   clear H2 hrt
   obtain ⟨a7, rfl, e7⟩ := li_at h0.m.lst (i := i) hlt
   rw [hk] at e7
   obtain ⟨a2, rfl, A9, c9, e9, hl9, hC9⟩ := at_row hN1 k (by rw [List.length_map]; exact hkr)
   rw [List.getElem_map, hrk, ints_length, hr8] at e9 hl9
   rw [List.getElem_map, hrk, ints_length, hr8] at hC9
   have e9n := cell_up h0.m.bel e9
   have e3 : wn.cell? ⟨w.heap.size, 3, none⟩ = some (.slice (some a2) rows.length cn) := (blk_cell (blk_below bM h0.m.bel) 3).trans rfl
   have hkr2 : ((k : Int) < (rows.length : Int)) = True := eq_true (by omega)
   have h0k : (0 ≤ (k : Int)) = True := eq_true (by omega)
   go_quiet (fail)
   generalize nq = n1
   replace h0 := h0.step (pw_below_drewN (Below.refl _ _) n1)
   generalize wn.drewN n1 = wp at *
   clear e7 e3 e9n h0i hlt1 h0k hkr2
   go_wp2_with fail
   go_loopg [7, 12] 3 (fun kq v7 v12 wq => ∃ (a : Nat) (s : St) (A' : Option Addr) (c' : Nat), v7 = .slice A' s.1.length c' ∧ v12 = .int .i64 (a : Int) ∧ Aside0 (kq = 3 - a) ∧ a ≤ 3 ∧ Aside0 (runA lv r ([0, 1, 2].drop a) s = rt) ∧ Aside0 (Inv rows.length li s) ∧
    Aside0 (Now w1 w1.heap.size (w1.heap.size + 1) gN gO (.slice A' s.1.length c') s vA ((li.take i).map (acF accs)) vN nx vO ot wq))
   case atStart => exact ⟨0, (li, [-1, -1], [⟨#[]⟩, ⟨#[]⟩]), _, _, rfl, rfl, ⟨rfl⟩, by omega, HR0, ⟨hv0⟩, ⟨h0⟩⟩
   case round =>
    clear h0 HR0
    obtain ⟨a, s, A', c', rfl, rfl, hkq, ha3, HR, hv, hq⟩ := hrel
    replace hq := hq.out
    by_cases hla : a < 3
    ·have HR1 := HR.out
     rw [runA_step hla] at HR1
     have HB0 := Aside0.mk HR1
     clear HR1 HR
     have hla1 : ((a : Int) ≤ 2) = True := eq_true (by omega)
     go_wp2_with fail
     go_loopg [7, 13] 3 (fun kz v7 v13 wz => ∃ (b : Nat) (s : St) (A' : Option Addr) (c' : Nat), v7 = .slice A' s.1.length c' ∧ v13 = .int .i64 (b : Int) ∧ Aside0 (kz = 3 - b) ∧ b ≤ 3 ∧ Aside0 ((runB lv r a ([0, 1, 2].drop b) s).bind (runA lv r ([0, 1, 2].drop (a + 1))) = rt) ∧ Aside0 (Inv rows.length li s) ∧
      Aside0 (Now w1 w1.heap.size (w1.heap.size + 1) gN gO (.slice A' s.1.length c') s vA ((li.take i).map (acF accs)) vN nx vO ot wz))
     case atStart => exact ⟨0, s, _, _, rfl, rfl, ⟨rfl⟩, by omega, HB0, hv, ⟨hq⟩⟩
     case round =>
      clear hq HB0
      obtain ⟨b, s, A', c', rfl, rfl, hkz, hb3, HB, hv, hz⟩ := hrel
      replace hz := hz.out
      by_cases hlb : b < 3
      ·have HB1 := HB.out
       rw [runB_step hlb] at HB1
       have HB := Aside0.mk HB1
       clear HB1
       have hlb1 : ((b : Int) ≤ 2) = True := eq_true (by omega)
       by_cases hab : a = 2 ∧ b = 2
       ·have ea : ((a : Int) = 2) = True := eq_true (by omega)
        have ea2 : ((a : Int) == 2) = true := by simp <;> omega
        have eb : ((b : Int) = 2) = True := eq_true (by omega)
        have eb2 : ((b : Int) == 2) = true := by simp <;> omega
        have HB2 := HB.out
        rw [pairF_skip hab] at HB2
        have HB3 := Aside0.mk HB2
        clear HB2 HB
        go_wp2_with fail
        go_roundg (3 - (b + 1))
        case measure => have := hkz.out; omega
        case rel => exact ⟨b + 1, s, A', c', rfl, (by go_num), ⟨rfl⟩, by omega, HB3, hv, ⟨hz⟩⟩
       ·have hcase : (a = 2 ∧ b < 2) ∨ (a < 2 ∧ b = 2) ∨ (a < 2 ∧ b < 2) := by omega
        have hc8 : a + 3 * b < r.length := by omega
        obtain ⟨ad9, h9, et⟩ := at_num hC9 (a + 3 * b) (by rw [ints_length]; exact hc8)
        subst h9
        rw [ints_get r _ _ hc8] at et
        obtain ⟨t, ht⟩ : ∃ t, r[a + 3 * b] = t := ⟨_, rfl⟩
        have htl : t < rows.length := by rw [← ht]; exact hrl _ (List.getElem_mem hc8)
        rw [ht] at et
        have htD : r.getD (a + 3 * b) 0 = t := by rw [← ht]; simp [List.getD_eq_getElem?_getD, hc8]
        clear ht
        obtain ⟨adF2, eF, ef⟩ := int_at hCF t (by omega)
        cases eF
        have hft := hfr2.out t htl
        obtain ⟨y9, hy9⟩ : ∃ x, fr.getD t (-1) = x := ⟨_, rfl⟩
        rw [hy9] at ef hft
        clear hy9
        have htl1 : ((t : Int) < (rows.length : Int)) = True := eq_true (by omega)
        have htl2 : (0 ≤ (t : Int)) = True := eq_true (by omega)
        obtain ⟨cc, hcc⟩ : ∃ cc, a + 3 * b = cc := ⟨_, rfl⟩
        rw [hcc] at et htD
        have hc81 : ((cc : Int) < 8) = True := eq_true (by omega)
        have hc82 : (0 ≤ (cc : Int)) = True := eq_true (by omega)
        have htD2 : r.getD (a + 3 * b) 0 = t := by rw [hcc]; exact htD
        clear hc8 htD
        cases hlt : lv t with
        | false =>
         have hf0 : (y9 < 0) = True := eq_true (hft.2 hlt)
         have HB2 := HB.out
         rw [pairF_dead hab (by rw [htD2]; exact hlt)] at HB2
         have HB3 := Aside0.mk HB2
         clear HB2 HB hft
         rcases hcase with ⟨h1, h2⟩ | ⟨h1, h2⟩ | ⟨h1, h2⟩
         ·have ea : ((a : Int) = 2) = True := eq_true (by omega)
          have ea2 : ((a : Int) == 2) = true := by simp <;> omega
          have eb : ((b : Int) = 2) = False := eq_false (by omega)
          have eb2 : ((b : Int) == 2) = false := by simp <;> omega
          clear h1 h2
          go_wp2_with (go_at_call 86; go_loud (
          with_reducible refine (hcol2.out _ _ _ a b (by omega) (by omega) (two_lit _ _ _ _) (by omega)).mono ?_
          rintro e w3 ⟨he, hb3⟩
          rw [hcc] at he
          subst he
          have g2 := (hz.step (below_alloc (Below.refl _ _) (.cells #[.int .i64 (a : Int), .int .i64 (b : Int)] 3))).step hb3
          clear hb3
          have kt := cell_up g2.m.bel et
          have kf := cell_up g2.m.bel ef))
          go_roundg (3 - (b + 1))
          case measure => have := hkz.out; omega
          case rel => exact ⟨b + 1, s, A', c', rfl, (by go_num), ⟨rfl⟩, by omega, HB3, hv, ⟨g2⟩⟩
         ·have ea : ((a : Int) = 2) = False := eq_false (by omega)
          have ea2 : ((a : Int) == 2) = false := by simp <;> omega
          have eb : ((b : Int) = 2) = True := eq_true (by omega)
          have eb2 : ((b : Int) == 2) = true := by simp <;> omega
          clear h1 h2
          go_wp2_with (go_at_call 86; go_loud (
          with_reducible refine (hcol2.out _ _ _ a b (by omega) (by omega) (two_lit _ _ _ _) (by omega)).mono ?_
          rintro e w3 ⟨he, hb3⟩
          rw [hcc] at he
          subst he
          have g2 := (hz.step (below_alloc (Below.refl _ _) (.cells #[.int .i64 (a : Int), .int .i64 (b : Int)] 3))).step hb3
          clear hb3
          have kt := cell_up g2.m.bel et
          have kf := cell_up g2.m.bel ef))
          go_roundg (3 - (b + 1))
          case measure => have := hkz.out; omega
          case rel => exact ⟨b + 1, s, A', c', rfl, (by go_num), ⟨rfl⟩, by omega, HB3, hv, ⟨g2⟩⟩
         ·have ea : ((a : Int) = 2) = False := eq_false (by omega)
          have ea2 : ((a : Int) == 2) = false := by simp <;> omega
          have eb : ((b : Int) = 2) = False := eq_false (by omega)
          have eb2 : ((b : Int) == 2) = false := by simp <;> omega
          clear h1 h2
          go_wp2_with (go_at_call 86; go_loud (
          with_reducible refine (hcol2.out _ _ _ a b (by omega) (by omega) (two_lit _ _ _ _) (by omega)).mono ?_
          rintro e w3 ⟨he, hb3⟩
          rw [hcc] at he
          subst he
          have g2 := (hz.step (below_alloc (Below.refl _ _) (.cells #[.int .i64 (a : Int), .int .i64 (b : Int)] 3))).step hb3
          clear hb3
          have kt := cell_up g2.m.bel et
          have kf := cell_up g2.m.bel ef))
          go_roundg (3 - (b + 1))
          case measure => have := hkz.out; omega
          case rel => exact ⟨b + 1, s, A', c', rfl, (by go_num), ⟨rfl⟩, by omega, HB3, hv, ⟨g2⟩⟩
        | true =>
         have hf0 : (y9 < 0) = False := eq_false (fun h => by have := hft.1 h; rw [hlt] at this; cases this)
         clear hft
         have hbadr : (a = 2 ∨ b = 2 ∨ 0 ≤ s.2.1.getD a (-1)) → res = none := fun h => by
          have h2 := HB.out
          rw [pairF_bad hab (by rw [htD2]; exact hlt) h] at h2
          have h3 := HH.out
          rw [← (show none = rt from h2)] at h3
          exact (Option.some.inj h3).symm
         rcases hcase with ⟨h1, h2⟩ | ⟨h1, h2⟩ | ⟨h1, h2⟩
         ·have hrn := hbadr (Or.inl h1)
          have ea : ((a : Int) = 2) = True := eq_true (by omega)
          have ea2 : ((a : Int) == 2) = true := by simp <;> omega
          have eb : ((b : Int) = 2) = False := eq_false (by omega)
          have eb2 : ((b : Int) == 2) = false := by simp <;> omega
          clear h1 h2 hbadr HB HH
          subst hrn
          go_wp2_with (go_at_call 86; go_loud (
          with_reducible refine (hcol2.out _ _ _ a b (by omega) (by omega) (two_lit _ _ _ _) (by omega)).mono ?_
          rintro e w3 ⟨he, hb3⟩
          rw [hcc] at he
          subst he
          have g2 := (hz.step (below_alloc (Below.refl _ _) (.cells #[.int .i64 (a : Int), .int .i64 (b : Int)] 3))).step hb3
          clear hb3
          have kt := cell_up g2.m.bel et
          have kf := cell_up g2.m.bel ef
          have bR2 := blk_below bR g2.m.bel
          have d0 : w3.cell? ⟨w.heap.size + 1, 0, none⟩ = some (.slice none 0 0) := (blk_cell bR2 0).trans rfl
          have d1 : w3.cell? ⟨w.heap.size + 1, 1, none⟩ = some (.slice none 0 0) := (blk_cell bR2 1).trans rfl
          have d2 : w3.cell? ⟨w.heap.size + 1, 2, none⟩ = some (.slice none 0 0) := (blk_cell bR2 2).trans rfl
          have f0 : w3.frozen? ⟨w.heap.size + 1, 0, none⟩ = false := blk_frozen bR2 0
          have f1 : w3.frozen? ⟨w.heap.size + 1, 1, none⟩ = false := blk_frozen bR2 1
          have f2 : w3.frozen? ⟨w.heap.size + 1, 2, none⟩ = false := blk_frozen bR2 2))
          have hB := below_step hB1 g2.m.bel
          clear d0 d1 d2 f0 f1 f2
          have b1 := blk_put bR2 0 (.slice none 0 0) rfl
          have b2 := blk_put b1 1 (.slice none 0 0) rfl
          have b3 := blk_put b2 2 (.slice none 0 0) rfl
          refine bodyPost_ret (results_ct rfl _ _ (w.heap.size + 1) 37 #[.slice none 0 0, .slice none 0 0, .slice none 0 0] (0, 0) _ rfl b3 Tryd.underlying37 rfl (by kernel_rfl)) rfl ⟨_, _, _, rfl, Kd.R_nil _ _ _ _ _, Kd.R_nil _ _ _ _ _, Kd.R_nil _ _ _ _ _, ?_⟩
          exact ((hB.setCell (by simp) _).setCell (by simp) _).setCell (by simp) _
         ·have hrn := hbadr (Or.inr (Or.inl h2))
          have ea : ((a : Int) = 2) = False := eq_false (by omega)
          have ea2 : ((a : Int) == 2) = false := by simp <;> omega
          have eb : ((b : Int) = 2) = True := eq_true (by omega)
          have eb2 : ((b : Int) == 2) = true := by simp <;> omega
          clear h1 h2 hbadr HB HH
          subst hrn
          go_wp2_with (go_at_call 86; go_loud (
          with_reducible refine (hcol2.out _ _ _ a b (by omega) (by omega) (two_lit _ _ _ _) (by omega)).mono ?_
          rintro e w3 ⟨he, hb3⟩
          rw [hcc] at he
          subst he
          have g2 := (hz.step (below_alloc (Below.refl _ _) (.cells #[.int .i64 (a : Int), .int .i64 (b : Int)] 3))).step hb3
          clear hb3
          have kt := cell_up g2.m.bel et
          have kf := cell_up g2.m.bel ef
          have bR2 := blk_below bR g2.m.bel
          have d0 : w3.cell? ⟨w.heap.size + 1, 0, none⟩ = some (.slice none 0 0) := (blk_cell bR2 0).trans rfl
          have d1 : w3.cell? ⟨w.heap.size + 1, 1, none⟩ = some (.slice none 0 0) := (blk_cell bR2 1).trans rfl
          have d2 : w3.cell? ⟨w.heap.size + 1, 2, none⟩ = some (.slice none 0 0) := (blk_cell bR2 2).trans rfl
          have f0 : w3.frozen? ⟨w.heap.size + 1, 0, none⟩ = false := blk_frozen bR2 0
          have f1 : w3.frozen? ⟨w.heap.size + 1, 1, none⟩ = false := blk_frozen bR2 1
          have f2 : w3.frozen? ⟨w.heap.size + 1, 2, none⟩ = false := blk_frozen bR2 2))
          have hB := below_step hB1 g2.m.bel
          clear d0 d1 d2 f0 f1 f2
          have b1 := blk_put bR2 0 (.slice none 0 0) rfl
          have b2 := blk_put b1 1 (.slice none 0 0) rfl
          have b3 := blk_put b2 2 (.slice none 0 0) rfl
          refine bodyPost_ret (results_ct rfl _ _ (w.heap.size + 1) 37 #[.slice none 0 0, .slice none 0 0, .slice none 0 0] (0, 0) _ rfl b3 Tryd.underlying37 rfl (by kernel_rfl)) rfl ⟨_, _, _, rfl, Kd.R_nil _ _ _ _ _, Kd.R_nil _ _ _ _ _, Kd.R_nil _ _ _ _ _, ?_⟩
          exact ((hB.setCell (by simp) _).setCell (by simp) _).setCell (by simp) _
         ·have hla2 : a < 2 := h1
          have ea : ((a : Int) = 2) = False := eq_false (by omega)
          have ea2 : ((a : Int) == 2) = false := by simp <;> omega
          have eb : ((b : Int) = 2) = False := eq_false (by omega)
          have eb2 : ((b : Int) == 2) = false := by simp <;> omega
          obtain ⟨y, hy⟩ : ∃ y, s.2.1.getD a (-1) = y := ⟨_, rfl⟩
          rw [hy] at hbadr
          replace hy := Aside0.mk hy
          have ha2 : ((a : Int) < 2) = True := eq_true (by omega)
          have ha0 : (0 ≤ (a : Int)) = True := eq_true (by omega)
          by_cases hyn : 0 ≤ y
          ·have hrn := hbadr (Or.inr (Or.inr hyn))
           have hyn1 : (0 ≤ y) = True := eq_true hyn
           clear h1 hbadr HB HH
           subst hrn
           go_wp2_with (go_at_call 86; go_loud (
           with_reducible refine (hcol2.out _ _ _ a b (by omega) (by omega) (two_lit _ _ _ _) (by omega)).mono ?_
           rintro e w3 ⟨he, hb3⟩
           rw [hcc] at he
           subst he
           have g2 := (hz.step (below_alloc (Below.refl _ _) (.cells #[.int .i64 (a : Int), .int .i64 (b : Int)] 3))).step hb3
           clear hb3
           have kt := cell_up g2.m.bel et
           have kf := cell_up g2.m.bel ef
           have kN : w3.cell? ⟨gN, a, none⟩ = some (.int .i64 y) := by rw [← hy.out]; exact (blk_cell g2.bN a).trans (encI_get hv.out.lN hla2)
           have bR2 := blk_below bR g2.m.bel
           have d0 : w3.cell? ⟨w.heap.size + 1, 0, none⟩ = some (.slice none 0 0) := (blk_cell bR2 0).trans rfl
           have d1 : w3.cell? ⟨w.heap.size + 1, 1, none⟩ = some (.slice none 0 0) := (blk_cell bR2 1).trans rfl
           have d2 : w3.cell? ⟨w.heap.size + 1, 2, none⟩ = some (.slice none 0 0) := (blk_cell bR2 2).trans rfl
           have f0 : w3.frozen? ⟨w.heap.size + 1, 0, none⟩ = false := blk_frozen bR2 0
           have f1 : w3.frozen? ⟨w.heap.size + 1, 1, none⟩ = false := blk_frozen bR2 1
           have f2 : w3.frozen? ⟨w.heap.size + 1, 2, none⟩ = false := blk_frozen bR2 2))
           have hB := below_step hB1 g2.m.bel
           clear d0 d1 d2 f0 f1 f2
           have b1 := blk_put bR2 0 (.slice none 0 0) rfl
           have b2 := blk_put b1 1 (.slice none 0 0) rfl
           have b3 := blk_put b2 2 (.slice none 0 0) rfl
           refine bodyPost_ret (results_ct rfl _ _ (w.heap.size + 1) 37 #[.slice none 0 0, .slice none 0 0, .slice none 0 0] (0, 0) _ rfl b3 Tryd.underlying37 rfl (by kernel_rfl)) rfl ⟨_, _, _, rfl, Kd.R_nil _ _ _ _ _, Kd.R_nil _ _ _ _ _, Kd.R_nil _ _ _ _ _, ?_⟩
           exact ((hB.setCell (by simp) _).setCell (by simp) _).setCell (by simp) _
          ·have hyn1 : (0 ≤ y) = False := eq_false hyn
           clear hbadr
           clear HH
           cases hf : find id t s.1 with
           | some j =>
            have HB2 := HB.out
            rw [pairF_hit hla2 h2 (by rw [htD2]; exact hlt) (by rw [hy.out]; omega) (by rw [htD2]; exact hf)] at HB2
            have HB3 := Aside0.mk HB2
            have hjm := GwI.ents_hit ((find_ints t s.1).trans hf)
            unfold GwI.encP at hjm
            clear HB2 HB hf
            go_wp2_with (first
            | (go_at_call 86; go_loud (
             with_reducible refine (hcol2.out _ _ _ a b (by omega) (by omega) (two_lit _ _ _ _) (by omega)).mono ?_
             rintro e w3 ⟨he, hb3⟩
             rw [hcc] at he
             subst he
             have g2 := (hz.step (below_alloc (Below.refl _ _) (.cells #[.int .i64 (a : Int), .int .i64 (b : Int)] 3))).step hb3
             clear hb3
             have kt := cell_up g2.m.bel et
             have kf := cell_up g2.m.bel ef
             have kN : w3.cell? ⟨gN, a, none⟩ = some (.int .i64 y) := by rw [← hy.out]; exact (blk_cell g2.bN a).trans (encI_get hv.out.lN hla2)))
            | ((with_reducible refine gate_dst (N := 96) rfl ?_); go_loud (refine at_hit g2.m.map int_law rfl _ _ 110 2 rfl Tryd.underlying110 (zero_i64 _) rfl _ _ rfl hjm ?_)))
            have hQd := g2.step (below_drew1 (Below.refl _ _))
            have hw2 : (0 ≤ (b : Int) + 1 ∧ (b : Int) + 1 ≤ 2) = True := eq_true (by omega)
            have hw3 : ((b : Int) ≤ (b : Int) + 1) = True := eq_true (by omega)
            have hsl : ByteArray.extract ⟨#[97, 98]⟩ b (b + 1) = ab b := by
             match b, h2 with
             | 0, _ => rfl
             | 1, _ => rfl
            have hw1 := wrap_b h2
            refine start_ (n := 11) (S := fun _ => True) (ds := [10]) (.replicate 11 false) (by kernel_rfl) rfl rfl (trivial) (fun hHeld => ?_)
            refine pure_ (i := 0) (N := some 110) (v := ?_) (a' := ?_) (zb 11 1) rfl rfl (by kernel_rfl) (fun _ _ _ h => h) (Or.inl ⟨by rfl, ?_⟩) ?_ ?_
            rotate_left
            ·intro w'
             go_simp
             with_reducible rfl
            rotate_left
            ·simp only [Act.put, Za, Zb, Zc, i64_w, i32_w]
             rfl
            refine pure_ (i := 1) (N := some 111) (v := ?_) (a' := ?_) (zb 11 3) rfl rfl (by kernel_rfl) (fun _ _ _ h => h) (Or.inl ⟨by rfl, ?_⟩) ?_ ?_
            rotate_left
            ·intro w'
             go_simp
             with_reducible rfl
            rotate_left
            ·simp only [Act.put, Za, Zb, Zc, i64_w, i32_w]
             rfl
            refine pure_ (i := 2) (N := some 112) (v := ?_) (a' := ?_) (zb 11 7) rfl rfl (by kernel_rfl) (fun _ _ _ h => h) (Or.inl ⟨by rfl, ?_⟩) ?_ ?_
            rotate_left
            ·intro w'
             go_simp
             with_reducible rfl
            rotate_left
            ·simp only [Act.put, Za, Zb, Zc, i64_w, i32_w]
             rfl
            refine pure_ (i := 3) (N := some 113) (v := ?_) (a' := ?_) (zb 11 15) rfl rfl (by kernel_rfl) (fun _ _ _ h => h) (Or.inl ⟨by rfl, ?_⟩) ?_ ?_
            rotate_left
            ·intro w'
             go_simp
             with_reducible rfl
            rotate_left
            ·simp only [Act.put, Za, Zb, Zc, i64_w, i32_w]
             rfl
            refine pure_ (i := 4) (N := some 114) (v := ?_) (a' := ?_) (zb 11 31) rfl rfl (by kernel_rfl) (fun _ _ _ h => h) (Or.inl ⟨by rfl, ?_⟩) ?_ ?_
            rotate_left
            ·intro w'
             go_simp
             with_reducible rfl
            rotate_left
            ·simp only [Act.put, Za, Zb, Zc, i64_w, i32_w]
             rfl
            refine pure_ (i := 5) (N := some 115) (v := ?_) (a' := ?_) (zb 11 63) rfl rfl (by kernel_rfl) (fun _ _ _ h => h) (Or.inl ⟨by rfl, ?_⟩) ?_ ?_
            rotate_left
            ·intro w'
             go_simp
             with_reducible rfl
            rotate_left
            ·simp only [Act.put, Za, Zb, Zc, i64_w, i32_w]
             rfl
            refine pure_ (i := 6) (N := some 116) (v := ?_) (a' := ?_) (zb 11 127) rfl rfl (by kernel_rfl) (fun _ _ _ h => h) (Or.inl ⟨by rfl, ?_⟩) ?_ ?_
            rotate_left
            ·intro w'
             go_simp
             with_reducible rfl
            rotate_left
            ·simp only [Act.put, Za, Zb, Zc, i64_w, i32_w]
             rfl
            clear hw1 hw2 hw3 hsl
            refine pure_ (i := 7) (N := some 117) (v := ?_) (a' := ?_) (zb 11 255) rfl rfl (by kernel_rfl) (fun _ _ _ h => h) (Or.inl ⟨by rfl, ?_⟩) ?_ ?_
            rotate_left
            ·intro w'
             go_simp
             with_reducible rfl
            rotate_left
            ·simp only [Act.put, Za, Zb, Zc, i64_w, i32_w]
             rfl
            refine one_ (i := 8) (N := none) (zb 11 511) rfl rfl (by kernel_rfl) (by decide) (fun K hK => ?_)
            have f1 : w3.drew.frozen? ⟨gN, a, none⟩ = false := blk_frozen hQd.bN a
            have c1 : w3.drew.cell? ⟨gN, a, none⟩ = some (.int .i64 y) := by rw [← hy.out]; exact (blk_cell hQd.bN a).trans (encI_get hv.out.lN hla2)
            refine skip_ (w1 := w3.drew.setCell ⟨gN, a, none⟩ (.int .i64 (j : Int))) (by rfl) rfl (by first | (go_simp; done) | (go_simp; rfl)) ?_
            refine hK.out _ _ trivial (fun hHeld => ?_)
            clear hK K f1 c1
            refine pure_ (i := 9) (N := some 118) (v := ?_) (a' := ?_) (zb 11 1023) rfl rfl (by kernel_rfl) (fun _ _ _ h => h) (Or.inl ⟨by rfl, ?_⟩) ?_ ?_
            rotate_left
            ·intro w'
             go_simp
             with_reducible rfl
            rotate_left
            ·simp only [Act.put, Za, Zb, Zc, i64_w, i32_w]
             rfl
            refine last_ (i := 10) (N := none) (zb 11 2047) rfl rfl (by kernel_rfl) (by decide) (fun K hK => ?_)
            have k2 := Keep.set w3 ⟨gN, a, none⟩ (.int .i64 (j : Int))
            have bO2 := k2.obj g2.bO (off_ne g2.bO (Off.cells g2.bN (by decide)))
            obtain ⟨z, hz2⟩ : ∃ z, s.2.2.getD a ⟨#[]⟩ = z := ⟨_, rfl⟩
            have f2 : w3.frozen? ⟨gO, a, none⟩ = false := blk_frozen g2.bO a
            have c2 := (blk_cell bO2 a).trans (encT_get hv.out.lO hla2)
            rw [hz2] at c2
            have hQ := hQd.set a (j : Int) (ab b)
            refine skip_ (w1 := (w3.drew.setCell ⟨gN, a, none⟩ (.int .i64 (j : Int))).setCell ⟨gO, a, none⟩ (.string (ab b))) (by rfl) rfl (by first | (go_simp; done) | (go_simp; rfl)) ?_
            refine hK.out _ _ ?_
            clear hK K
            refine done_ (by kernel_rfl) ?_
            clear k2 bO2 f2 c2 hQd
            generalize (w3.drew.setCell ⟨gN, a, none⟩ (.int .i64 (j : Int))).setCell ⟨gO, a, none⟩ (.string (ab b)) = w9 at *
            go_wp2_with fail
            go_roundg (3 - (b + 1))
            case measure => have := hkz.out; omega
            case rel => exact ⟨b + 1, (s.1, s.2.1.set a (j : Int), s.2.2.set a (ab b)), _, _, rfl, (by go_num), ⟨rfl⟩, by omega, HB3, ⟨hv.out.set _ _ _⟩, ⟨hQ⟩⟩
           | none =>
            have hkt : keyOf Tryd.prog 3 (.int .i64 (t : Int)) = some (.int .i64 (t : Int)) := int_key ⟨by omega, by omega⟩
            have hsl := hv.out.le
            have hv2 := hv.out.more htl hf a (s.1.length : Int) (ab b)
            have HB2 := HB.out
            rw [pairF_miss hla2 h2 (by rw [htD2]; exact hlt) (by rw [hy.out]; omega) (by rw [htD2]; exact hf), htD2] at HB2
            have HB3 := Aside0.mk HB2
            have hjm := GwI.ents_miss ((find_ints t s.1).trans hf)
            unfold GwI.encP at hjm
            have hen : ints (s.1 ++ [t]) = ints s.1 ++ [(t : Int)] := by simp [ints, GwI.ints]
            replace hen := Aside0.mk hen
            clear HB2 HB hf
            go_wp2_with (first
            | (go_at_call 86; go_loud (
             with_reducible refine (hcol2.out _ _ _ a b (by omega) (by omega) (two_lit _ _ _ _) (by omega)).mono ?_
             rintro e w3 ⟨he, hb3⟩
             rw [hcc] at he
             subst he
             have g2 := (hz.step (below_alloc (Below.refl _ _) (.cells #[.int .i64 (a : Int), .int .i64 (b : Int)] 3))).step hb3
             clear hb3
             have kt := cell_up g2.m.bel et
             have kf := cell_up g2.m.bel ef
             have kN : w3.cell? ⟨gN, a, none⟩ = some (.int .i64 y) := by rw [← hy.out]; exact (blk_cell g2.bN a).trans (encI_get hv.out.lN hla2)))
            | ((with_reducible refine gate_dst (N := 96) rfl ?_); go_loud (refine at_miss g2.m.map int_law rfl _ _ 110 2 rfl Tryd.underlying110 (zero_i64 _) rfl _ hkt rfl hjm ?_))
            | (at_mapUpdate; go_loud (
             refine at_put g2.m.map int_law rfl _ _ _ 110 2 (Or.inl rfl) Tryd.underlying110 (by rw [GwI.ents_length, ints_length]; unfold maxLen; omega) rfl _ (.int .i64 (s.1.length : Int)) hkt rfl rfl hjm ?_
             intro w5 hF5 hg5
             have hF6 : FMap Tryd.prog 3 w5 (w1.heap.size + 1) (GwI.ents (ints (s.1 ++ [t]))) := by
              rw [hen.out, GwI.ents_snoc, ints_length]
              exact hF5
             clear hF5
             obtain ⟨m5, n5, o5⟩ := g2.push hg5 hF6))
            | ((with_reducible refine gate_builtin (b := .append) (xs := #[.tmp 106, .tmp 108]) rfl ?_); go_loud (
             at_builtin
             refine R_append' (Kd.int .i64) (w0 := w1) w1.heap.size rfl (.tmp 106) (.tmp 108) 87 3 (.int .i64 0) 8 rfl Tryd.underlying87 GwI.info_int rfl (by decide) (by decide) (.slice A' s.1.length c') (ints s.1) (t : Int) [.int .i64 (t : Int)] (fun _ => True) (fun _ => False) _ (by simp) rfl rfl rfl (fun _ h => h.elim) (fun _ _ => trivial) m5.lst m5.bel (Below.size m5.bel) (by rw [ints_length]; omega) ?_
             intro v6 w6 hR6 hb6 hg6 hat6
             rw [← hen.out] at hR6
             obtain ⟨A6, c6, hv6⟩ := Kd.R_slice hR6
             subst hv6
             rw [ints_length] at hR6
             have g6 := m5.now n5 o5 g2.hN g2.hO hg6 hR6 hb6
             rw [ints_length, List.length_append, List.length_singleton])))
            have hQd := g6.step (below_drew1 (Below.refl _ _))
            have hw2 : (0 ≤ (b : Int) + 1 ∧ (b : Int) + 1 ≤ 2) = True := eq_true (by omega)
            have hw3 : ((b : Int) ≤ (b : Int) + 1) = True := eq_true (by omega)
            have hsl : ByteArray.extract ⟨#[97, 98]⟩ b (b + 1) = ab b := by
             match b, h2 with
             | 0, _ => rfl
             | 1, _ => rfl
            have hw1 := wrap_b h2
            refine start_ (n := 11) (S := fun _ => True) (ds := [10]) (.replicate 11 false) (by kernel_rfl) rfl rfl (trivial) (fun hHeld => ?_)
            refine pure_ (i := 0) (N := some 110) (v := ?_) (a' := ?_) (zb 11 1) rfl rfl (by kernel_rfl) (fun _ _ _ h => h) (Or.inl ⟨by rfl, ?_⟩) ?_ ?_
            rotate_left
            ·intro w'
             go_simp
             with_reducible rfl
            rotate_left
            ·simp only [Act.put, Za, Zb, Zc, i64_w, i32_w]
             rfl
            refine pure_ (i := 1) (N := some 111) (v := ?_) (a' := ?_) (zb 11 3) rfl rfl (by kernel_rfl) (fun _ _ _ h => h) (Or.inl ⟨by rfl, ?_⟩) ?_ ?_
            rotate_left
            ·intro w'
             go_simp
             with_reducible rfl
            rotate_left
            ·simp only [Act.put, Za, Zb, Zc, i64_w, i32_w]
             rfl
            refine pure_ (i := 2) (N := some 112) (v := ?_) (a' := ?_) (zb 11 7) rfl rfl (by kernel_rfl) (fun _ _ _ h => h) (Or.inl ⟨by rfl, ?_⟩) ?_ ?_
            rotate_left
            ·intro w'
             go_simp
             with_reducible rfl
            rotate_left
            ·simp only [Act.put, Za, Zb, Zc, i64_w, i32_w]
             rfl
            refine pure_ (i := 3) (N := some 113) (v := ?_) (a' := ?_) (zb 11 15) rfl rfl (by kernel_rfl) (fun _ _ _ h => h) (Or.inl ⟨by rfl, ?_⟩) ?_ ?_
            rotate_left
            ·intro w'
             go_simp
             with_reducible rfl
            rotate_left
            ·simp only [Act.put, Za, Zb, Zc, i64_w, i32_w]
             rfl
            refine pure_ (i := 4) (N := some 114) (v := ?_) (a' := ?_) (zb 11 31) rfl rfl (by kernel_rfl) (fun _ _ _ h => h) (Or.inl ⟨by rfl, ?_⟩) ?_ ?_
            rotate_left
            ·intro w'
             go_simp
             with_reducible rfl
            rotate_left
            ·simp only [Act.put, Za, Zb, Zc, i64_w, i32_w]
             rfl
            refine pure_ (i := 5) (N := some 115) (v := ?_) (a' := ?_) (zb 11 63) rfl rfl (by kernel_rfl) (fun _ _ _ h => h) (Or.inl ⟨by rfl, ?_⟩) ?_ ?_
            rotate_left
            ·intro w'
             go_simp
             with_reducible rfl
            rotate_left
            ·simp only [Act.put, Za, Zb, Zc, i64_w, i32_w]
             rfl
            refine pure_ (i := 6) (N := some 116) (v := ?_) (a' := ?_) (zb 11 127) rfl rfl (by kernel_rfl) (fun _ _ _ h => h) (Or.inl ⟨by rfl, ?_⟩) ?_ ?_
            rotate_left
            ·intro w'
             go_simp
             with_reducible rfl
            rotate_left
            ·simp only [Act.put, Za, Zb, Zc, i64_w, i32_w]
             rfl
            clear hw1 hw2 hw3 hsl
            refine pure_ (i := 7) (N := some 117) (v := ?_) (a' := ?_) (zb 11 255) rfl rfl (by kernel_rfl) (fun _ _ _ h => h) (Or.inl ⟨by rfl, ?_⟩) ?_ ?_
            rotate_left
            ·intro w'
             go_simp
             with_reducible rfl
            rotate_left
            ·simp only [Act.put, Za, Zb, Zc, i64_w, i32_w]
             rfl
            refine one_ (i := 8) (N := none) (zb 11 511) rfl rfl (by kernel_rfl) (by decide) (fun K hK => ?_)
            have f1 : w6.drew.frozen? ⟨gN, a, none⟩ = false := blk_frozen hQd.bN a
            have c1 : w6.drew.cell? ⟨gN, a, none⟩ = some (.int .i64 y) := by rw [← hy.out]; exact (blk_cell hQd.bN a).trans (encI_get hv.out.lN hla2)
            refine skip_ (w1 := w6.drew.setCell ⟨gN, a, none⟩ (.int .i64 (s.1.length : Int))) (by rfl) rfl (by first | (go_simp; done) | (go_simp; rfl)) ?_
            refine hK.out _ _ trivial (fun hHeld => ?_)
            clear hK K f1 c1
            refine pure_ (i := 9) (N := some 118) (v := ?_) (a' := ?_) (zb 11 1023) rfl rfl (by kernel_rfl) (fun _ _ _ h => h) (Or.inl ⟨by rfl, ?_⟩) ?_ ?_
            rotate_left
            ·intro w'
             go_simp
             with_reducible rfl
            rotate_left
            ·simp only [Act.put, Za, Zb, Zc, i64_w, i32_w]
             rfl
            refine last_ (i := 10) (N := none) (zb 11 2047) rfl rfl (by kernel_rfl) (by decide) (fun K hK => ?_)
            have k2 := Keep.set w6 ⟨gN, a, none⟩ (.int .i64 (s.1.length : Int))
            have bO2 := k2.obj g6.bO (off_ne g6.bO (Off.cells g6.bN (by decide)))
            obtain ⟨z, hz2⟩ : ∃ z, s.2.2.getD a ⟨#[]⟩ = z := ⟨_, rfl⟩
            have f2 : w6.frozen? ⟨gO, a, none⟩ = false := blk_frozen g6.bO a
            have c2 := (blk_cell bO2 a).trans (encT_get hv.out.lO hla2)
            rw [hz2] at c2
            have hQ := hQd.set a (s.1.length : Int) (ab b)
            refine skip_ (w1 := (w6.drew.setCell ⟨gN, a, none⟩ (.int .i64 (s.1.length : Int))).setCell ⟨gO, a, none⟩ (.string (ab b))) (by rfl) rfl (by first | (go_simp; done) | (go_simp; rfl)) ?_
            refine hK.out _ _ ?_
            clear hK K
            refine done_ (by kernel_rfl) ?_
            clear k2 bO2 f2 c2 hQd
            generalize (w6.drew.setCell ⟨gN, a, none⟩ (.int .i64 (s.1.length : Int))).setCell ⟨gO, a, none⟩ (.string (ab b)) = w9 at *
            go_wp2_with fail
            go_roundg (3 - (b + 1))
            case measure => have := hkz.out; omega
            case rel => exact ⟨b + 1, (s.1 ++ [t], s.2.1.set a (s.1.length : Int), s.2.2.set a (ab b)), _, _, (by simp), (by go_num), ⟨rfl⟩, by omega, HB3, ⟨hv2⟩, ⟨hQ⟩⟩
      ·have hbb : b = 3 := by omega
       subst hbb
       have HR := Aside0.mk (show runA lv r ([0, 1, 2].drop (a + 1)) s = rt from HB.out)
       clear HB
       go_wp2_with fail
       go_roundg (3 - (a + 1))
       case measure => have := hkq.out; omega
       case rel => exact ⟨a + 1, s, A', c', rfl, (by go_num), ⟨rfl⟩, by omega, HR, hv, ⟨hz⟩⟩
    ·have haa : a = 3 := by omega
     subst haa
     obtain rfl : some s = rt := HR.out
     have HH2 := Aside0.mk (show scr lv rows kf (i + 1) s.1 (nx ++ [s.2.1]) (ot ++ [s.2.2]) = some res from HH.out)
     obtain ⟨hsi, hsk, htk⟩ := hv.out.get hlt
     rw [hk] at hsk htk
     have htk2 := Aside0.mk htk
     have hsk2 := Aside0.mk hsk
     have hka : k < accs.length := by rw [← hcl.len]; exact hkr
     obtain ⟨bx, hbx⟩ : ∃ bx, acF accs k = bx := ⟨_, rfl⟩
     have hbx2 := Aside0.mk hbx
     obtain ⟨am, rfl, _⟩ := at_mark hA1 k hka
     obtain ⟨a8, rfl, _⟩ := li_at hq.m.lst hsi
     have hsi1 : ((i : Int) < (s.1.length : Int)) = True := eq_true (by omega)
     have h0i : (0 ≤ (i : Int)) = True := eq_true (by omega)
     have hka1 : ((k : Int) < (accs.length : Int)) = True := eq_true (by omega)
     have h0k : (0 ≤ (k : Int)) = True := eq_true (by omega)
     have hsn := hv.out.le
     clear HR HH hsk htk hbx
     go_wp2_with fail
     have hB : ∀ W', Below w1.heap.size w1 W' → Kd.R (Kd.int .i64) 3 W' w1.heap.size (fun _ => True) (.slice (some a8) s.1.length c') (ints s.1) → W'.cell? ⟨w.heap.size, 2, none⟩ = some (.slice (some am) accs.length ca) ∧ W'.cell? (a8.add i) = some (.int .i64 (k : Int)) ∧ W'.cell? (am.add k) = some (.bool bx) := by
      intro W' hb hL
      obtain ⟨a9, e8, k8⟩ := li_at hL hsi
      cases e8
      rw [hsk2.out] at k8
      obtain ⟨a6, e9, k9⟩ := at_mark (Kd.C_below hA1 hb) k hka
      cases e9
      rw [← acF_get hka, hbx2.out] at k9
      exact ⟨(blk_cell (blk_below bM hb) 2).trans rfl, k8, k9⟩
     have hSS : ∀ W' vA' bs', Now w1 w1.heap.size (w1.heap.size + 1) gN gO (.slice (some a8) s.1.length c') s vA' bs' vN nx vO ot W' → W'.cell? ⟨w1.heap.size, 0, none⟩ = some vA' ∧ W'.cell? ⟨w.heap.size, 2, none⟩ = some (.slice (some am) accs.length ca) ∧ W'.cell? (a8.add i) = some (.int .i64 (k : Int)) ∧ W'.cell? (am.add k) = some (.bool bx) := fun W' vA' bs' h => ⟨(blk_cell h.m.bX 0).trans rfl, hB W' h.m.bel h.m.lst⟩
     have hQd := hq.step (below_drew1 (Below.refl _ _))
     refine start_ (n := 14) (S := fun w' => w'.cell? ⟨w1.heap.size, 0, none⟩ = some vA ∧ w'.cell? ⟨w.heap.size, 2, none⟩ = some (.slice (some am) accs.length ca) ∧ w'.cell? (a8.add i) = some (.int .i64 (k : Int)) ∧ w'.cell? (am.add k) = some (.bool bx)) (ds := [13]) (.replicate 14 false) (by kernel_rfl) rfl rfl (hSS _ _ _ hQd) (fun hHeld => ?_)
     refine pure_ (i := 0) (N := some 119) (v := ?_) (a' := ?_) (zb 14 1) rfl rfl (by kernel_rfl) (fun _ _ _ h => h) (Or.inl ⟨by rfl, ?_⟩) ?_ ?_
     rotate_left
     ·intro w'
      go_simp
      with_reducible rfl
     rotate_left
     ·simp only [Act.put, Za, Zb, Zc, i64_w, i32_w]
      rfl
     refine pure_ (i := 2) (N := some 121) (v := ?_) (a' := ?_) (zb 14 5) rfl rfl (by kernel_rfl) (fun _ _ _ h => h) (Or.inl ⟨by rfl, ?_⟩) ?_ ?_
     rotate_left
     ·intro w'
      go_simp
      with_reducible rfl
     rotate_left
     ·simp only [Act.put, Za, Zb, Zc, i64_w, i32_w]
      rfl
     refine pure_ (i := 4) (N := some 123) (v := ?_) (a' := ?_) (zb 14 21) rfl rfl (by kernel_rfl) (fun _ _ _ h => h) (Or.inl ⟨by rfl, ?_⟩) ?_ ?_
     rotate_left
     ·intro w'
      go_simp
      with_reducible rfl
     rotate_left
     ·simp only [Act.put, Za, Zb, Zc, i64_w, i32_w]
      rfl
     refine pure_ (i := 5) (N := some 124) (v := ?_) (a' := ?_) (zb 14 53) rfl rfl (by kernel_rfl) (fun _ _ _ h => h) (Or.inl ⟨by rfl, ?_⟩) ?_ ?_
     rotate_left
     ·intro w'
      go_simp
      with_reducible rfl
     rotate_left
     ·simp only [Act.put, Za, Zb, Zc, i64_w, i32_w]
      rfl
     refine pure_ (i := 6) (N := some 125) (v := ?_) (a' := ?_) (zb 14 117) rfl rfl (by kernel_rfl) (fun _ _ _ h => h) (Or.inl ⟨by rfl, ?_⟩) ?_ ?_
     rotate_left
     ·intro w'
      go_simp
      with_reducible rfl
     rotate_left
     ·simp only [Act.put, Za, Zb, Zc, i64_w, i32_w]
      rfl
     refine take_ (i := 1) (N := some 120) (v := ?_) (a' := ?_) (zb 14 119) rfl rfl (by kernel_rfl) (fun _ _ _ h => h) (Or.inl ⟨by rfl, ?_⟩) hHeld ?_ ?_
     rotate_left
     ·rintro w' ⟨s1, s2, s3, s4⟩
      go_simp
      with_reducible rfl
     rotate_left
     ·simp only [Act.put, Za, Zb, Zc, i64_w, i32_w]
      rfl
     refine take_ (i := 3) (N := some 122) (v := ?_) (a' := ?_) (zb 14 127) rfl rfl (by kernel_rfl) (fun _ _ _ h => h) (Or.inl ⟨by rfl, ?_⟩) hHeld ?_ ?_
     rotate_left
     ·rintro w' ⟨s1, s2, s3, s4⟩
      go_simp
      with_reducible rfl
     rotate_left
     ·simp only [Act.put, Za, Zb, Zc, i64_w, i32_w]
      rfl
     refine take_ (i := 7) (N := some 126) (v := ?_) (a' := ?_) (zb 14 255) rfl rfl (by kernel_rfl) (fun _ _ _ h => h) (Or.inl ⟨by rfl, ?_⟩) hHeld ?_ ?_
     rotate_left
     ·rintro w' ⟨s1, s2, s3, s4⟩
      go_simp
      with_reducible rfl
     rotate_left
     ·simp only [Act.put, Za, Zb, Zc, i64_w, i32_w]
      rfl
     refine pure_ (i := 8) (N := some 127) (v := ?_) (a' := ?_) (zb 14 511) rfl rfl (by kernel_rfl) (fun _ _ _ h => h) (Or.inl ⟨by rfl, ?_⟩) ?_ ?_
     rotate_left
     ·intro w'
      go_simp
      with_reducible rfl
     rotate_left
     ·simp only [Act.put, Za, Zb, Zc, i64_w, i32_w]
      rfl
     refine take_ (i := 9) (N := some 128) (v := ?_) (a' := ?_) (zb 14 1023) rfl rfl (by kernel_rfl) (fun _ _ _ h => h) (Or.inl ⟨by rfl, ?_⟩) hHeld ?_ ?_
     rotate_left
     ·rintro w' ⟨s1, s2, s3, s4⟩
      go_simp
      with_reducible rfl
     rotate_left
     ·simp only [Act.put, Za, Zb, Zc, i64_w, i32_w]
      rfl
     refine one_ (i := 10) (N := some 129) (zb 14 2047) rfl rfl (by kernel_rfl) (by decide) (fun K hK => ?_)
     refine value_ (w1 := wr.drew.alloc (.cells #[.bool bx] 4)) (v := .slice (some ⟨wr.drew.heap.size, 0, none⟩) 1 1) (by rfl) rfl (by first | (go_simp; done) | (go_simp; rfl)) ?_
     have hQ5 := hQd.step (below_alloc (Below.refl _ _) (.cells #[.bool bx] 4))
     refine hK.out _ _ (hSS _ _ _ hQ5) (fun hHeld => ?_)
     clear hK K
     refine norm_ (a' := ?_) ?_ ?_
     rotate_left
     ·show Act.put _ (some 129) _ = _
      simp only [Act.put, Za, Zb, Zc, i64_w, i32_w]
      rfl
     refine one_ (i := 11) (N := some 130) (zb 14 4095) rfl rfl (by kernel_rfl) (by decide) (fun K hK => ?_)
     refine Kd.R_append_step Kd.bool (w0 := w1) w1.heap.size (by rfl) (.tmp 120) (.tmp 129) 22 4 (.bool false) 1 rfl Tryd.underlying22 GwI.info_bool rfl (by decide) (by decide) vA ((li.take i).map (acF accs)) bx [.bool bx] (fun _ => True) (fun _ => False) rfl rfl rfl (fun _ h => h.elim) (fun _ _ => trivial) hQd.m.acc hQd.m.bel (Below.size hQd.m.bel) (by simp <;> omega) ?_
     intro v6 w6 hR6 hb6 hg6 hat6
     obtain ⟨A6, c6, hv6⟩ := Kd.R_slice hR6
     subst hv6
     obtain ⟨b26, hQ6⟩ := hQd.mark hg6 hR6 hb6
     refine hK.out _ _ ⟨(blk_cell b26 0).trans rfl, hB _ hb6 (R_off hQd.m.lst (Keep.grown hg6) (Off.row hQd.m.acc (by decide)))⟩ (fun hHeld => ?_)
     clear hK K
     refine norm_ (a' := ?_) ?_ ?_
     rotate_left
     ·show Act.put _ (some 130) _ = _
      simp only [Act.put, Za, Zb, Zc, i64_w, i32_w]
      rfl
     refine pure_ (i := 12) (N := some 131) (v := ?_) (a' := ?_) (zb 14 8191) rfl rfl (by kernel_rfl) (fun _ _ _ h => h) (Or.inl ⟨by rfl, ?_⟩) ?_ ?_
     rotate_left
     ·intro w'
      go_simp
      with_reducible rfl
     rotate_left
     ·simp only [Act.put, Za, Zb, Zc, i64_w, i32_w]
      rfl
     refine last_ (i := 13) (N := none) (zb 14 16383) rfl rfl (by kernel_rfl) (by decide) (fun K hK => ?_)
     have hf6 : w6.frozen? ⟨w1.heap.size, 0, none⟩ = false := blk_frozen b26 0
     have hc6 : w6.cell? ⟨w1.heap.size, 0, none⟩ = some vA := (blk_cell b26 0).trans rfl
     refine skip_ (w1 := w6.setCell ⟨w1.heap.size, 0, none⟩ (.slice A6 (((li.take i).map (acF accs)) ++ [bx]).length c6)) (by rfl) rfl (by first | (go_simp; done) | (go_simp; rfl)) ?_
     refine hK.out _ _ ?_
     clear hK K
     refine done_ (by kernel_rfl) ?_
     clear hSS hB hQd hQ5 hf6 hc6 b26 hR6 hb6 hg6 hHeld hq
     generalize w6.setCell ⟨w1.heap.size, 0, none⟩ (.slice A6 (((li.take i).map (acF accs)) ++ [bx]).length c6) = w7 at *
     obtain ⟨n0, n1, hN2⟩ := two_list hv.out.lN
     obtain ⟨t0, t1, hO2⟩ := two_list hv.out.lO
     have hgN7 := blk_lt hQ6.bN
     have hgO7 := blk_lt hQ6.bO
     have bN7 := hQ6.bN
     rw [hN2] at bN7
     have k0 : w7.cell? ⟨gN, 0, none⟩ = some (.int .i64 n0) := (blk_cell bN7 0).trans rfl
     have k1 : w7.cell? ⟨gN, 1, none⟩ = some (.int .i64 n1) := (blk_cell bN7 1).trans rfl
     have c71 : w7.cell? ⟨w1.heap.size, 1, none⟩ = some vN := (blk_cell hQ6.m.bX 1).trans rfl
     have hnl2 : nx.length ≤ 1000000 := by have := hnl.out; omega
     have hol2 : ot.length ≤ 1000000 := by have := hol.out; omega
     clear bN7
     go_wp2_with (first
     | ((with_reducible refine gate_builtin (b := .append) (xs := #[.tmp 133, .tmp 135]) rfl ?_); go_loud (
       at_builtin
       refine R_append' Pair (w0 := w1) w1.heap.size rfl (.tmp 133) (.tmp 135) 34 78 (.agg #[.int .i64 0, .int .i64 0]) 16 rfl Tryd.underlying34 info_pair rfl (by decide) (by decide) vN nx [n0, n1] [.int .i64 n0, .int .i64 n1] (fun k => some k ≠ some gN) (fun _ => False) _ (by simp) rfl rfl (Kd.arr_of_cells rfl) (fun _ h => h.elim) (fun k hk e => by have := Option.some.inj e; omega) hQ6.m.nxt hQ6.m.bel (Below.size hQ6.m.bel) (by omega) ?_
       intro v8 w8 hR8 hb8 hg8 hat8
       obtain ⟨A8, c8, hv8⟩ := Kd.R_slice hR8
       rw [List.length_append, List.length_singleton] at hv8
       subst hv8
       obtain ⟨b28, m8, o8⟩ := hQ6.addN hg8 hR8 hb8
       rw [hO2] at o8
       have c81 : w8.cell? ⟨w1.heap.size, 1, none⟩ = some vN := (blk_cell b28 1).trans rfl
       have f81 : w8.frozen? ⟨w1.heap.size, 1, none⟩ = false := blk_frozen b28 1
       have c82 : w8.cell? ⟨w1.heap.size, 2, none⟩ = some vO := (blk_cell b28 2).trans rfl
       have j0 : (w8.setCell ⟨w1.heap.size, 1, none⟩ (.slice A8 (nx.length + 1) c8)).cell? ⟨gO, 0, none⟩ = some (.string t0) := (blk_cell o8 0).trans rfl
       have j1 : (w8.setCell ⟨w1.heap.size, 1, none⟩ (.slice A8 (nx.length + 1) c8)).cell? ⟨gO, 1, none⟩ = some (.string t1) := (blk_cell o8 1).trans rfl
       have hg8O := blk_lt o8))
     | ((with_reducible refine gate_builtin (b := .append) (xs := #[.tmp 139, .tmp 141]) rfl ?_); go_loud (
       at_builtin
       refine R_append' Text2 (w0 := w1) w1.heap.size rfl (.tmp 139) (.tmp 141) 35 79 (.agg #[.string ⟨#[]⟩, .string ⟨#[]⟩]) 32 rfl Tryd.underlying35 info_text2 rfl (by decide) (by decide) vO ot [t0, t1] [.string t0, .string t1] (fun k => some k ≠ some gO) (fun _ => False) _ (by simp) rfl rfl (Kd.arr_of_cells rfl) (fun _ h => h.elim) (fun k hk e => by have := Option.some.inj e; omega) m8.out m8.bel (Below.size m8.bel) (by omega) ?_
       intro v9 w9 hR9 hb9 hg9 hat9
       obtain ⟨A9', c9', hv9⟩ := Kd.R_slice hR9
       rw [List.length_append, List.length_singleton] at hv9
       subst hv9
       obtain ⟨b29, m9⟩ := m8.addO hg9 hR9 hb9
       have c92 : w9.cell? ⟨w1.heap.size, 2, none⟩ = some vO := (blk_cell b29 2).trans rfl
       have f92 : w9.frozen? ⟨w1.heap.size, 2, none⟩ = false := blk_frozen b29 2)))
     go_roundg kf
     case measure => omega
     case rel =>
      have e1 : (s.1.take (i + 1)).map (acF accs) = (li.take i).map (acF accs) ++ [bx] := by
       rw [htk2.out, List.map_append, ← hbx2.out]
       rfl
      have h9 := m9.done
      exact ⟨i + 1, s.1, nx ++ [[n0, n1]], ot ++ [[t0, t1]], _, _, _, _, _, rfl, (by go_num), ⟨by rw [← hN2, ← hO2]; exact HH2.out⟩, ⟨by have := hnl.out; simp; omega⟩, ⟨by have := hol.out; simp; omega⟩, by omega, ⟨hv.out.lt⟩, ⟨hv.out.nd⟩, ⟨by rw [e1]; exact h9⟩⟩
  ·rw [dif_neg hlt] at H1
   have hres2 : some (li, nx, ot) = res := Option.some.inj H1
   subst hres2
   have hii : i = li.length := by omega
   subst hii
   clear H H1
   rw [List.take_of_length_le (Nat.le_refl _)] at h
   have hlt1 : ((li.length : Int) < (li.length : Int)) = False := eq_false (by omega)
   have d0 : wo.cell? ⟨w1.heap.size, 0, none⟩ = some vA := (blk_cell h.bX 0).trans rfl
   have d1 : wo.cell? ⟨w1.heap.size, 1, none⟩ = some vN := (blk_cell h.bX 1).trans rfl
   have d2 : wo.cell? ⟨w1.heap.size, 2, none⟩ = some vO := (blk_cell h.bX 2).trans rfl
   have b := blk_below bR h.bel
   have e0 : wo.cell? ⟨w.heap.size + 1, 0, none⟩ = some (.slice none 0 0) := (blk_cell b 0).trans rfl
   have e1 : wo.cell? ⟨w.heap.size + 1, 1, none⟩ = some (.slice none 0 0) := (blk_cell b 1).trans rfl
   have e2 : wo.cell? ⟨w.heap.size + 1, 2, none⟩ = some (.slice none 0 0) := (blk_cell b 2).trans rfl
   have f0 : wo.frozen? ⟨w.heap.size + 1, 0, none⟩ = false := blk_frozen b 0
   have f1 : wo.frozen? ⟨w.heap.size + 1, 1, none⟩ = false := blk_frozen b 1
   have f2 : wo.frozen? ⟨w.heap.size + 1, 2, none⟩ = false := blk_frozen b 2
   have hB := below_step hB1 h.bel
   have hlow := Below.size hB1
   obtain ⟨AX, cX, hvA⟩ := Kd.R_slice h.acc
   obtain ⟨BX, dX, hvN⟩ := Kd.R_slice h.nxt
   obtain ⟨CX, eX, hvO⟩ := Kd.R_slice h.out
   subst hvA
   subst hvN
   subst hvO
   go_wp2_with fail
   clear d0 d1 d2 e0 e1 e2 f0 f1 f2
   have b1 := blk_put b 0 (.slice AX (li.map (acF accs)).length cX) rfl
   have b2 := blk_put b1 1 (.slice BX nx.length dX) rfl
   have b3 := blk_put b2 2 (.slice CX ot.length eX) rfl
   simp only [List.length_map] at b3 ⊢
   refine bodyPost_ret (results_ct rfl _ _ (w.heap.size + 1) 37 #[.slice AX li.length cX, .slice BX nx.length dX, .slice CX ot.length eX] (0, 0) _ rfl b3 Tryd.underlying37 rfl (by kernel_rfl)) rfl ⟨_, _, _, rfl, ?_, ?_, ?_, ?_⟩
   ·have hA2 := Kd.R_set (Kd.R_set (Kd.R_set (Kd.R_lower h.acc hlow) b (by decide) 0 (.slice AX (li.map (acF accs)).length cX)) b1 (by decide) 1 (.slice BX nx.length dX)) b2 (by decide) 2 (.slice CX ot.length eX)
    simp only [List.length_map] at hA2
    exact hA2
   ·have hA2 := Kd.R_mono (Kd.R_set (Kd.R_set (Kd.R_set (Kd.R_lower h.nxt hlow) b (by decide) 0 (.slice AX (li.map (acF accs)).length cX)) b1 (by decide) 1 (.slice BX nx.length dX)) b2 (by decide) 2 (.slice CX ot.length eX)) (ok' := fun _ => True) (fun _ _ => trivial)
    simp only [List.length_map] at hA2
    exact hA2
   ·have hA2 := Kd.R_mono (Kd.R_set (Kd.R_set (Kd.R_set (Kd.R_lower h.out hlow) b (by decide) 0 (.slice AX (li.map (acF accs)).length cX)) b1 (by decide) 1 (.slice BX nx.length dX)) b2 (by decide) 2 (.slice CX ot.length eX)) (ok' := fun _ => True) (fun _ _ => trivial)
    simp only [List.length_map] at hA2
    exact hA2
   ·exact ((hB.setCell (by simp) _).setCell (by simp) _).setCell (by simp) _
end Go.Proofs.YtnjdkhnepmmfgaaDoor.Sb
namespace Go.Proofs.YtnjdkhnepmmfgaaDoor.Sp
set_option linter.unusedVariables false
set_option linter.unusedSimpArgs false
open Go.RowKit Go.Proofs.YtnjdkhnepmmfgaaDoorW.PrintWords Go.Proofs.YtnjdkhnepmmfgaaDoorW.PrintLast Go.Proofs.YtnjdkhnepmmfgaaDoorW.PrintMore Mp Kp Mg Tdy Rg Tw Sb
/-- The places from x on get their numbers. -/
def numFrom : Nat → List Nat × List Int → List Nat × List Int
 | 0, q => numF 1 (numF 0 q)
 | 1, q => numF 1 q
 | _, q => q
theorem numFrom_step {x : Nat} (hx : x < 2) (q : List Nat × List Int) : numFrom x q = numFrom (x + 1) (numF x q) := by
 match x, hx with
 | 0, _ => rfl
 | 1, _ => rfl
/-- What holds while places get their numbers. -/
structure NumOk (n : Nat) (li : List Nat) (x : Nat) (tab : List Int) (q : List Nat × List Int) : Prop where
 tab : Tab n q.1 tab
 pre : ∃ m, q.1 = li ++ m
 len : q.2.length = 2
 st : ∀ j, x ≤ j → j < 2 → q.2.getD j (-1) = -1 ∨ ∃ t : Nat, t < n ∧ q.2.getD j (-1) = (t : Int)
theorem numF_hit {x t j : Nat} {q : List Nat × List Int} (h : q.2.getD x (-1) = (t : Int)) (hf : find id t q.1 = some j) : numF x q = (q.1, q.2.set x (j : Int)) := by
 unfold numF
 rw [h, if_neg (by omega), Int.toNat_natCast, hf]
theorem numF_miss {x t : Nat} {q : List Nat × List Int} (h : q.2.getD x (-1) = (t : Int)) (hf : find id t q.1 = none) : numF x q = (q.1 ++ [t], q.2.set x (q.1.length : Int)) := by
 unfold numF
 rw [h, if_neg (by omega), Int.toNat_natCast, hf]
theorem getD_set_ne {l : List Int} {i j : Nat} {v d : Int} (h : i ≠ j) : (l.set i v).getD j d = l.getD j d := by
 simp [List.getD_eq_getElem?_getD, List.getElem?_set, h]
theorem NumOk.set {n : Nat} {li : List Nat} {x : Nat} {tab : List Int} {q : List Nat × List Int} (h : NumOk n li x tab q) (j : Int) : NumOk n li (x + 1) tab (q.1, q.2.set x j) :=
 ⟨h.tab, h.pre, by simp [h.len], fun k h1 h2 => by rw [getD_set_ne (by omega)]; exact h.st k (by omega) h2⟩
theorem NumOk.more {n : Nat} {li : List Nat} {x : Nat} {tab : List Int} {q : List Nat × List Int} (h : NumOk n li x tab q) {t : Nat} (ht : t < n) (hn : t ∉ q.1) (j : Int) : NumOk n li (x + 1) (tab.set t (q.1.length : Int)) (q.1 ++ [t], q.2.set x j) :=
 ⟨h.tab.push ht hn, by obtain ⟨m, hm⟩ := h.pre; exact ⟨m ++ [t], by rw [hm, List.append_assoc]⟩, by simp [h.len], fun k h1 h2 => by rw [getD_set_ne (by omega)]; exact h.st k (by omega) h2⟩
theorem tab_at {n : Nat} {li : List Nat} {tab : List Int} (h : Tab n li tab) {t : Nat} (ht : t < n) : (find id t li = none ∧ tab[t]? = some (-1) ∧ t ∉ li) ∨ ∃ j : Nat, find id t li = some j ∧ tab[t]? = some (j : Int) ∧ j < li.length := by
 have h2 : Tab n (li.map id) tab := by rw [List.map_id]; exact h
 have := tab_find h2 (t := t) ht
 rwa [List.map_id] at this
set_option maxHeartbeats 1000000 in
theorem refused (w : World) : Calls Tryd.prog 82 #[] w fun e w' => e = .returned (.tuple #[.agg #[.int .i64 (-1), .int .i64 (-1)], .agg #[.string ⟨#[]⟩, .string ⟨#[]⟩]]) ∧ Below w.heap.size w w' := by
 go_enter Tryd.func82, Tryd.ntmps82
 go_wp2_with fail
 have b1 := blk_alloc (blk_new w (.cells #[.int .i64 (-1), .int .i64 (-1)] 78)) (.cells #[.string ⟨#[]⟩, .string ⟨#[]⟩] 79)
 have b2 := blk_at (w.alloc (.cells #[.int .i64 (-1), .int .i64 (-1)] 78)) (.cells #[.string ⟨#[]⟩, .string ⟨#[]⟩] 79) (w.heap.size + 1) (by simp)
 refine bodyPost_ret (results_cc rfl _ _ w.heap.size (w.heap.size + 1) 78 79 #[.int .i64 (-1), .int .i64 (-1)] #[.string ⟨#[]⟩, .string ⟨#[]⟩] (0, 0) (0, 0) _ _ rfl b1 Tryd.underlying78 rfl (by kernel_rfl) rfl b2 Tryd.underlying79 rfl (by kernel_rfl)) rfl ?_
 exact ⟨rfl, below_alloc (below_alloc (Below.refl _ _) _) _⟩
set_option maxHeartbeats 8000000 in
set_option maxRecDepth 100000 in
theorem scribe (tapes : Int) (start : Nat) (accs : List Bool) (rows : List (List Nat)) (hcl : Closed 8 rows accs) (hn : rows.length ≤ 1000000) (hst : start < rows.length)
  (lv : Nat → Bool) (w : World) (gp : Nat) (AA : Option Addr) (ca : Nat) (AN : Option Addr) (cn : Nat) (hP : w.heap[gp]? = some (.cells #[.int .i64 tapes, .int .i64 start, .slice AA accs.length ca, .slice AN rows.length cn] 27 (0, 0)))
  (hA : Kd.C Kd.bool w AA accs.length accs) (hN : Kd.C (Kd.slice 2 (Kd.int .i64)) w AN rows.length (rows.map ints)) (hca : accs.length ≤ ca) (hcn : rows.length ≤ cn)
  (hfar : ∀ W, Below w.heap.size w W → Calls Tryd.prog 81 #[.pointer (some ⟨gp, 0, none⟩)] W fun e W' => ∃ v, e = .returned v ∧ Kd.R Kd.bool 4 W' W.heap.size (fun _ => True) v ((List.range rows.length).map lv) ∧ Below W.heap.size W W')
  (hwide : ∀ W, Calls Tryd.prog 53 #[.int .i64 2] W fun e W' => e = .returned (.int .i64 8) ∧ Below W.heap.size W W')
  (hdig0 : ∀ W (c : Nat), c < 8 → Calls Tryd.prog 54 #[.int .i64 (c : Int), .int .i64 0] W fun e W' => e = .returned (.int .i64 ((c % 3 : Nat) : Int)) ∧ Below W.heap.size W W')
  (hdig1 : ∀ W (c : Nat), c < 8 → Calls Tryd.prog 54 #[.int .i64 (c : Int), .int .i64 1] W fun e W' => e = .returned (.int .i64 ((c / 3 : Nat) : Int)) ∧ Below W.heap.size W W')
  (hlive : lv start = true) (f : Nat) (res : Option Sc) (hres : scr lv rows f 0 [start] [] [] = some res) :
  Calls Tryd.prog 40 #[.pointer (some ⟨gp, 0, none⟩)] w fun e w' => ∃ vA vN vO, e = .returned (.tuple #[.agg #[vA, vN, vO], .bool (outcome accs res).2.2.2]) ∧
   Kd.R Kd.bool 4 w' w.heap.size (fun _ => True) vA (outcome accs res).1 ∧ Kd.R Pair 78 w' w.heap.size (fun _ => True) vN (outcome accs res).2.1 ∧ Kd.R Text2 79 w' w.heap.size (fun _ => True) vO (outcome accs res).2.2.1 ∧ Below w.heap.size w w' := by
 have hgp := blk_lt hP
 go_enter Tryd.func40, Tryd.ntmps40
 go_wp2_with (first
  | (go_at_call 81; go_loud (
    have hB0 := below_alloc (Below.refl w.heap.size w) (.cells #[.slice none 0 0, .slice none 0 0, .slice none 0 0] 37)
    with_reducible refine (hfar _ hB0).mono ?_
    rintro e w1 ⟨vF, rfl, rF, hb1⟩
    have bR := blk_below (blk_new w (.cells #[.slice none 0 0, .slice none 0 0, .slice none 0 0] 37)) hb1
    have bP := blk_below (blk_alloc hP (.cells #[.slice none 0 0, .slice none 0 0, .slice none 0 0] 37)) hb1
    have hB1 := below_step hB0 hb1
    obtain ⟨AF, cF, hvF⟩ := Kd.R_slice rF
    subst hvF
    rw [List.length_map, List.length_range] at rF
    obtain ⟨hq1, hq2, hCF⟩ := Kd.R_reads' rF
    clear hq1
    rw [List.length_map, List.length_range] at hCF ⊢
    obtain ⟨wA, hWA⟩ : ∃ wA : World, wA = w1.alloc (.cells #[.slice none 0 0, .slice none 0 0, .slice none 0 0] 37) := ⟨_, rfl⟩
    have hbA : Below w1.heap.size w1 wA := by rw [hWA]; exact below_alloc (Below.refl _ _) _
    have bX : wA.heap[w1.heap.size]? = some (.cells #[.slice none 0 0, .slice none 0 0, .slice none 0 0] 37 (0, 0)) := by rw [hWA]; exact blk_new _ _
    have hCA := Kd.C_below hCF hbA
    obtain ⟨adF, rfl, kF⟩ := at_mark hCA start (by rw [List.length_map, List.length_range]; exact hst)
    rw [List.getElem_map, List.getElem_range, hlive] at kF
    have m1 : wA.cell? ⟨gp, 1, none⟩ = some (.int .i64 (start : Int)) := (blk_cell (blk_below bP hbA) 1).trans rfl
    have hst2 : ((start : Int) < (rows.length : Int)) = True := eq_true (by omega)
    have h0s : (0 ≤ (start : Int)) = True := eq_true (by omega)
    have m2 : (wA.alloc (.cells #[.int .i64 (start : Int)] 2)).cell? ⟨gp, 2, none⟩ = some (.slice AA accs.length ca) := (blk_cell (blk_alloc (blk_below bP hbA) _) 2).trans rfl
    subst hWA))
  | ((with_reducible refine gate_dst (N := 51) rfl ?_); go_loud (
    have hb4 := below_alloc hbA (.cells #[.int .i64 (start : Int)] 2)
    refine Kd.R_make (Kd.int .i64) (w0 := w1) w1.heap.size 2 rfl (N := 51) rfl 75 _ _ rfl (accs.length : Int) rfl rfl Tryd.underlying75 (.int .i64 0) 8 info_long rfl (by decide) (by decide) (0 : Int) (ok := fun _ => True) (okp := fun _ => False) rfl (fun _ h => h.elim) trivial (by omega) (by have := hcl.len; simp; omega) hb4 (Below.size hb4) ?_
    intro v2 w2 hR2 hb2 hg2 hn2
    simp only [Int.toNat_natCast] at hR2
    obtain ⟨gT, cT, hv2, hgT, hgTl, _⟩ := Kd.R_form hR2 (by have := hcl.len; simp; omega)
    subst hv2
    rw [List.length_replicate] at hR2
    have hK := Keep.grown hg2
    have hlen := hcl.len
    obtain ⟨bT, hbT, hbTl⟩ := hn2
    have hbT2 : gT = bT := Option.some.inj hbT
    subst hbT2
    simp at hbTl
    have h4 : MemS w1 w1.heap.size gT accs.length cT none none (List.replicate accs.length 0) (.slice (some ⟨w1.heap.size + 1, 0, none⟩) 1 1) [start] (.slice none 0 0) [] (.slice none 0 0) [] (.slice none 0 0) [] w2 := by
     have hL := R_one (Kd.int .i64) 2 (w1.alloc (.cells #[.slice none 0 0, .slice none 0 0, .slice none 0 0] 37)) w1.heap.size (by simp) (ok := fun _ => True) (okp := fun _ => False) (cs := [.int .i64 (start : Int)]) rfl (fun _ h => h.elim) trivial
     have z1 : (w1.alloc (.cells #[.slice none 0 0, .slice none 0 0, .slice none 0 0] 37)).heap.size = w1.heap.size + 1 := by simp
     rw [z1] at hL
     exact ⟨hK.obj (blk_alloc bX _) (by simp), hR2, SR.move hL hK (by simp), Kd.R_nil _ _ _ _ _, Kd.R_nil _ _ _ _ _, Kd.R_nil _ _ _ _ _, Nat.le_refl _, (fun e => by have h9 : gT = w1.heap.size + 1 := Option.some.inj e; omega), hb2⟩
    have m3 : w2.cell? ⟨gp, 1, none⟩ = some (.int .i64 (start : Int)) := (blk_cell (blk_below bP hb2) 1).trans rfl
    have hsa : start < accs.length := by omega
    have hst3 : ((start : Int) < (accs.length : Int)) = True := eq_true (by omega)
    have k4 := sr_at hR2 (i := start) (by rw [List.length_replicate]; exact hsa)
    rw [List.getElem_replicate] at k4
    obtain ⟨_, cells, hcT⟩ := row_blk hR2 (by rw [List.length_replicate]; omega)
    have f4 : w2.frozen? ⟨gT, start, none⟩ = false := blk_frozen hcT start
    have h5 := h4.set hgT start 1
    rw [← hlen] at h5
    clear hlen)))
 have ht0 : (List.replicate rows.length (0 : Int)).set start 1 = ((List.replicate rows.length (-1 : Int)).set start 0).map (· + 1) := by rw [List.map_set, List.map_replicate]; rfl
 rw [ht0] at h5
 have hT0 := Aside0.mk (tab_start hst)
 have hA1 := Kd.C_below hA hB1
 have hN1 := Kd.C_below hN hB1
 have hdg0 := Aside0.mk hdig0
 have hdg1 := Aside0.mk hdig1
 clear hdig0 hdig1 hfar hA hN hB0 hb1 ht0 hcT f4 k4 hst3 m3 h4 hbT hK hg2 hb2 hR2
 generalize w2.setCell ⟨gT, start, none⟩ (.int .i64 1) = w3 at *
 go_loopg [8, 10] f (fun kf v8 v10 wr => ∃ (i : Nat) (li : List Nat) (tab : List Int) (nx : List (List Int)) (ot : List (List ByteArray)) (AL : Option Addr) (cL : Nat) (vA vN vO : Value), v8 = .slice AL li.length cL ∧ v10 = .int .i64 (i : Int) ∧ Aside0 (scr lv rows kf i li nx ot = some res) ∧ Aside0 (nx.length = i) ∧ Aside0 (ot.length = i) ∧ i ≤ li.length ∧ Aside0 (Tab rows.length li tab) ∧
  Aside0 (MemS w1 w1.heap.size gT rows.length cT none none (tab.map (· + 1)) (.slice AL li.length cL) li vA ((li.take i).map (acF accs)) vN nx vO ot wr))
 case atStart => exact ⟨0, [start], _, [], [], _, _, _, _, _, rfl, rfl, ⟨hres⟩, ⟨rfl⟩, ⟨rfl⟩, Nat.zero_le _, hT0, ⟨h5⟩⟩
 case round =>
  clear h5 hT0
  obtain ⟨wo, rfl⟩ : ∃ wo : World, wo = wr := ⟨_, rfl⟩
  obtain ⟨i, li, tab, nx, ot, AL, cL, vA, vN, vO, rfl, rfl, H, hnl, hol, hil, hTab, h⟩ := hrel
  replace h := h.out
  cases gk with
  | zero => exact absurd H.out (by simp [scr])
  | succ kf =>
  have H1 := H.out
  unfold scr at H1
  by_cases hlt : i < li.length
  ·rw [dif_pos hlt] at H1
   have HH := Aside0.mk H1
   clear H1 H
   have hlt1 : ((i : Int) < (li.length : Int)) = True := eq_true (by omega)
   have h0i : (0 ≤ (i : Int)) = True := eq_true (by omega)
   obtain ⟨a7, rfl, e7⟩ := li_at h.lst (i := i) hlt
   obtain ⟨k, hk⟩ : ∃ k, li[i] = k := ⟨_, rfl⟩
   rw [hk] at e7
   have hkr : k < rows.length := by rw [← hk]; exact hTab.out.lt _ (List.getElem_mem hlt)
   go_wp2_with (go_at_call 82; go_loud (
    with_reducible refine (refused _).mono ?_
    rintro e w4 ⟨rfl, hb4⟩
    have h4 := h.step hb4))
   have h0 : NowS w1 w1.heap.size gT rows.length cT w4.heap.size (w4.heap.size + 1) (tab.map (· + 1)) (.slice (some a7) li.length cL) (li, [-1, -1], [⟨#[]⟩, ⟨#[]⟩]) vA ((li.take i).map (acF accs)) vN nx vO ot ((w4.alloc (.cells #[.int .i64 (-1), .int .i64 (-1)] 78)).alloc (.cells #[.string ⟨#[]⟩, .string ⟨#[]⟩] 79)) :=
    ⟨(h4.begin (Nat.le_refl _) (by omega)).step (below_alloc (below_alloc (Below.refl _ _) _) _), blk_alloc (blk_new _ _) _, blk_at _ _ _ (by simp), Below.size h4.bel, by have := Below.size h4.bel; omega⟩
   generalize (w4.alloc (.cells #[.int .i64 (-1), .int .i64 (-1)] 78)).alloc (.cells #[.string ⟨#[]⟩, .string ⟨#[]⟩] 79) = wn at *
   obtain ⟨gO, hgO⟩ : ∃ g, w4.heap.size + 1 = g := ⟨_, rfl⟩
   rw [hgO] at h0
   simp only [hgO]
   clear h h4 hgO hb4 e7 hlt1 h0i
   generalize w4.heap.size = gN at *
   obtain ⟨r, hr⟩ : ∃ r, rows.getD k [] = r := ⟨_, rfl⟩
   have hrk : rows[k] = r := by rw [← hr]; simp [List.getD_eq_getElem?_getD, hkr]
   have hr8 : r.length = 8 := by rw [← hrk]; exact hcl.wide _ (List.getElem_mem hkr)
   have hrl : ∀ q ∈ r, q < rows.length := by rw [← hrk]; exact hcl.lt _ (List.getElem_mem hkr)
   have H2 := HH.out
   rw [hk, hr, ← rowS_eq lv hr8 li] at H2
   unfold rowS at H2
   obtain ⟨cr, hcr⟩ : ∃ cr, colsF lv r [0, 1, 2, 3, 4, 5, 6, 7] ([-1, -1], [⟨#[]⟩, ⟨#[]⟩]) = cr := ⟨_, rfl⟩
   rw [hcr] at H2
   replace HH := Aside0.mk H2
   have HR0 := Aside0.mk hcr
   clear H2 hcr
   obtain ⟨a2, rfl, A9, c9, e9, hl9, hC9⟩ := at_row hN1 k (by rw [List.length_map]; exact hkr)
   rw [List.getElem_map, hrk, ints_length, hr8] at e9 hl9
   rw [List.getElem_map, hrk, ints_length, hr8] at hC9
   have hkr2 : ((k : Int) < (rows.length : Int)) = True := eq_true (by omega)
   have h0k : (0 ≤ (k : Int)) = True := eq_true (by omega)
   go_loopg [14] 8 (fun kq v14 wq => ∃ (c : Nat) (p : Ar), v14 = .int .i64 (c : Int) ∧ Aside0 (kq = 8 - c) ∧ c ≤ 8 ∧ Aside0 (colsF lv r ([0, 1, 2, 3, 4, 5, 6, 7].drop c) p = cr) ∧ Aside0 (ArOk rows.length p) ∧
    Aside0 (NowS w1 w1.heap.size gT rows.length cT gN gO (tab.map (· + 1)) (.slice (some a7) li.length cL) (li, p.1, p.2) vA ((li.take i).map (acF accs)) vN nx vO ot wq))
   case atStart => exact ⟨0, ([-1, -1], [⟨#[]⟩, ⟨#[]⟩]), rfl, ⟨rfl⟩, by omega, HR0, ⟨ArOk.start _⟩, ⟨h0⟩⟩
   case round =>
    clear h0 HR0
    obtain ⟨c, p, rfl, hkq, hc8, HR, hv, hq⟩ := hrel
    replace hq := hq.out
    by_cases hlc : c < 8
    ·have HR1 := HR.out
     rw [colsF_step hlc] at HR1
     have HB := Aside0.mk HR1
     clear HR1 HR
     have hc8 : c < r.length := by omega
     obtain ⟨ad9, h9, et⟩ := at_num hC9 c (by rw [ints_length]; exact hc8)
     subst h9
     rw [ints_get r _ _ hc8] at et
     obtain ⟨t, ht⟩ : ∃ t, r[c] = t := ⟨_, rfl⟩
     have htl : t < rows.length := by rw [← ht]; exact hrl _ (List.getElem_mem hc8)
     rw [ht] at et
     have htD : r.getD c 0 = t := by rw [← ht]; simp [List.getD_eq_getElem?_getD, hc8]
     clear ht
     obtain ⟨adF2, eF, ef⟩ := at_mark hCF t (by rw [List.length_map, List.length_range]; exact htl)
     cases eF
     rw [List.getElem_map, List.getElem_range] at ef
     have hlc1 : ((c : Int) < 8) = True := eq_true (by omega)
     have h0c : (0 ≤ (c : Int)) = True := eq_true (by omega)
     have htl1 : ((t : Int) < (rows.length : Int)) = True := eq_true (by omega)
     have htl3 : ((t : Int) < (accs.length : Int)) = True := eq_true (by have := hcl.len; omega)
     have htl2 : (0 ≤ (t : Int)) = True := eq_true (by omega)
     cases hlt : lv t with
     | false =>
      rw [hlt] at ef
      have HB2 := HB.out
      rw [colF_dead (by rw [htD]; exact hlt)] at HB2
      have HB3 := Aside0.mk HB2
      clear HB2 HB
      go_wp2_with (go_at_call 53; go_loud (
       with_reducible refine (hwide _).mono ?_
       rintro e w5 ⟨rfl, hb5⟩
       have g2 := hq.step hb5
       have kt := cell_up g2.m.bel et
       have kf := cell_up g2.m.bel ef
       have k9 := cell_up g2.m.bel e9
       have k3 : w5.cell? ⟨gp, 3, none⟩ = some (.slice (some a2) rows.length cn) := (blk_cell (blk_below bP g2.m.bel) 3).trans rfl))
      go_roundg (8 - (c + 1))
      case measure => have := hkq.out; omega
      case rel => exact ⟨c + 1, p, (by go_num), ⟨rfl⟩, by omega, HB3, hv, ⟨g2⟩⟩
     | true =>
      rw [hlt] at ef
      obtain ⟨X, hX⟩ : ∃ X, c % 3 = X := ⟨_, rfl⟩
      obtain ⟨Y, hY⟩ : ∃ Y, c / 3 = Y := ⟨_, rfl⟩
      have hbadr : (X = 2 ∨ Y = 2 ∨ 0 ≤ p.1.getD X (-1)) → res = none := fun h => by
       have h2 := HB.out
       rw [colF_bad (by rw [htD]; exact hlt) (by rw [hX, hY]; exact h)] at h2
       have h3 := HH.out
       rw [← (show none = cr from h2)] at h3
       exact (Option.some.inj h3).symm
      by_cases hXe : X = 2
      ·have hrn := hbadr (Or.inl hXe)
       have eX : ((X : Int) = 2) = True := eq_true (by omega)
       have eX2 : ((X : Int) == 2) = true := by simp <;> omega
       clear hbadr HB HH
       subst hrn
       go_wp2_with (first
        | (go_at_call 53; go_loud (
          with_reducible refine (hwide _).mono ?_
          rintro e w5 ⟨rfl, hb5⟩
          have g2 := hq.step hb5
          have kt := cell_up g2.m.bel et
          have kf := cell_up g2.m.bel ef
          have k9 := cell_up g2.m.bel e9
          have k3 : w5.cell? ⟨gp, 3, none⟩ = some (.slice (some a2) rows.length cn) := (blk_cell (blk_below bP g2.m.bel) 3).trans rfl))
        | (go_at_call 54; (with_reducible refine (hdg0.out _ c hlc).mono ?_); go_loud (
          rintro e w6 ⟨he, hb6⟩
          rw [hX] at he
          subst he
          have g3 := g2.step hb6))
        | (go_at_call 54; (with_reducible refine (hdg1.out _ c hlc).mono ?_); go_loud (
          rintro e w7 ⟨he, hb7⟩
          rw [hY] at he
          subst he
          have g4 := g3.step hb7
          have bR2 := blk_below bR g4.m.bel
          have d0 : w7.cell? ⟨w.heap.size, 0, none⟩ = some (.slice none 0 0) := (blk_cell bR2 0).trans rfl
          have d1 : w7.cell? ⟨w.heap.size, 1, none⟩ = some (.slice none 0 0) := (blk_cell bR2 1).trans rfl
          have d2 : w7.cell? ⟨w.heap.size, 2, none⟩ = some (.slice none 0 0) := (blk_cell bR2 2).trans rfl
          have f0 : w7.frozen? ⟨w.heap.size, 0, none⟩ = false := blk_frozen bR2 0
          have f1 : w7.frozen? ⟨w.heap.size, 1, none⟩ = false := blk_frozen bR2 1
          have f2 : w7.frozen? ⟨w.heap.size, 2, none⟩ = false := blk_frozen bR2 2)))
       have hB := below_step hB1 g4.m.bel
       clear d0 d1 d2 f0 f1 f2
       have b1 := blk_put bR2 0 (.slice none 0 0) rfl
       have b2 := blk_put b1 1 (.slice none 0 0) rfl
       have b3 := blk_put b2 2 (.slice none 0 0) rfl
       refine bodyPost_ret (results_ct rfl _ _ w.heap.size 37 #[.slice none 0 0, .slice none 0 0, .slice none 0 0] (0, 0) _ rfl b3 Tryd.underlying37 rfl (by kernel_rfl)) rfl ⟨_, _, _, rfl, Kd.R_nil _ _ _ _ _, Kd.R_nil _ _ _ _ _, Kd.R_nil _ _ _ _ _, ?_⟩
       exact ((hB.setCell (Nat.le_refl _) _).setCell (Nat.le_refl _) _).setCell (Nat.le_refl _) _
      ·have hX2 : X < 2 := by omega
       have eX : ((X : Int) = 2) = False := eq_false (by omega)
       have eX2 : ((X : Int) == 2) = false := by simp <;> omega
       by_cases hYe : Y = 2
       ·have hrn := hbadr (Or.inr (Or.inl hYe))
        have eY : ((Y : Int) = 2) = True := eq_true (by omega)
        have eY2 : ((Y : Int) == 2) = true := by simp <;> omega
        clear hbadr HB HH
        subst hrn
        go_wp2_with (first
         | (go_at_call 53; go_loud (
           with_reducible refine (hwide _).mono ?_
           rintro e w5 ⟨rfl, hb5⟩
           have g2 := hq.step hb5
           have kt := cell_up g2.m.bel et
           have kf := cell_up g2.m.bel ef
           have k9 := cell_up g2.m.bel e9
           have k3 : w5.cell? ⟨gp, 3, none⟩ = some (.slice (some a2) rows.length cn) := (blk_cell (blk_below bP g2.m.bel) 3).trans rfl))
         | (go_at_call 54; (with_reducible refine (hdg0.out _ c hlc).mono ?_); go_loud (
           rintro e w6 ⟨he, hb6⟩
           rw [hX] at he
           subst he
           have g3 := g2.step hb6))
         | (go_at_call 54; (with_reducible refine (hdg1.out _ c hlc).mono ?_); go_loud (
           rintro e w7 ⟨he, hb7⟩
           rw [hY] at he
           subst he
           have g4 := g3.step hb7
           have bR2 := blk_below bR g4.m.bel
           have d0 : w7.cell? ⟨w.heap.size, 0, none⟩ = some (.slice none 0 0) := (blk_cell bR2 0).trans rfl
           have d1 : w7.cell? ⟨w.heap.size, 1, none⟩ = some (.slice none 0 0) := (blk_cell bR2 1).trans rfl
           have d2 : w7.cell? ⟨w.heap.size, 2, none⟩ = some (.slice none 0 0) := (blk_cell bR2 2).trans rfl
           have f0 : w7.frozen? ⟨w.heap.size, 0, none⟩ = false := blk_frozen bR2 0
           have f1 : w7.frozen? ⟨w.heap.size, 1, none⟩ = false := blk_frozen bR2 1
           have f2 : w7.frozen? ⟨w.heap.size, 2, none⟩ = false := blk_frozen bR2 2)))
        have hB := below_step hB1 g4.m.bel
        clear d0 d1 d2 f0 f1 f2
        have b1 := blk_put bR2 0 (.slice none 0 0) rfl
        have b2 := blk_put b1 1 (.slice none 0 0) rfl
        have b3 := blk_put b2 2 (.slice none 0 0) rfl
        refine bodyPost_ret (results_ct rfl _ _ w.heap.size 37 #[.slice none 0 0, .slice none 0 0, .slice none 0 0] (0, 0) _ rfl b3 Tryd.underlying37 rfl (by kernel_rfl)) rfl ⟨_, _, _, rfl, Kd.R_nil _ _ _ _ _, Kd.R_nil _ _ _ _ _, Kd.R_nil _ _ _ _ _, ?_⟩
        exact ((hB.setCell (Nat.le_refl _) _).setCell (Nat.le_refl _) _).setCell (Nat.le_refl _) _
       ·have hY2 : Y < 2 := by omega
        have eY : ((Y : Int) = 2) = False := eq_false (by omega)
        have eY2 : ((Y : Int) == 2) = false := by simp <;> omega
        obtain ⟨y, hy⟩ : ∃ y, p.1.getD X (-1) = y := ⟨_, rfl⟩
        rw [hy] at hbadr
        replace hy := Aside0.mk hy
        have hX22 : ((X : Int) < 2) = True := eq_true (by omega)
        have hX0 : (0 ≤ (X : Int)) = True := eq_true (by omega)
        by_cases hyn : 0 ≤ y
        ·have hrn := hbadr (Or.inr (Or.inr hyn))
         have hyn1 : (0 ≤ y) = True := eq_true hyn
         clear hbadr HB HH
         subst hrn
         go_wp2_with (first
          | (go_at_call 53; go_loud (
            with_reducible refine (hwide _).mono ?_
            rintro e w5 ⟨rfl, hb5⟩
            have g2 := hq.step hb5
            have kt := cell_up g2.m.bel et
            have kf := cell_up g2.m.bel ef
            have k9 := cell_up g2.m.bel e9
            have k3 : w5.cell? ⟨gp, 3, none⟩ = some (.slice (some a2) rows.length cn) := (blk_cell (blk_below bP g2.m.bel) 3).trans rfl))
          | (go_at_call 54; (with_reducible refine (hdg0.out _ c hlc).mono ?_); go_loud (
            rintro e w6 ⟨he, hb6⟩
            rw [hX] at he
            subst he
            have g3 := g2.step hb6))
          | (go_at_call 54; (with_reducible refine (hdg1.out _ c hlc).mono ?_); go_loud (
            rintro e w7 ⟨he, hb7⟩
            rw [hY] at he
            subst he
            have g4 := g3.step hb7
            have kN : w7.cell? ⟨gN, X, none⟩ = some (.int .i64 y) := by rw [← hy.out]; exact (blk_cell g4.bN X).trans (encI_get hv.out.lN hX2)
            have bR2 := blk_below bR g4.m.bel
            have d0 : w7.cell? ⟨w.heap.size, 0, none⟩ = some (.slice none 0 0) := (blk_cell bR2 0).trans rfl
            have d1 : w7.cell? ⟨w.heap.size, 1, none⟩ = some (.slice none 0 0) := (blk_cell bR2 1).trans rfl
            have d2 : w7.cell? ⟨w.heap.size, 2, none⟩ = some (.slice none 0 0) := (blk_cell bR2 2).trans rfl
            have f0 : w7.frozen? ⟨w.heap.size, 0, none⟩ = false := blk_frozen bR2 0
            have f1 : w7.frozen? ⟨w.heap.size, 1, none⟩ = false := blk_frozen bR2 1
            have f2 : w7.frozen? ⟨w.heap.size, 2, none⟩ = false := blk_frozen bR2 2)))
         have hB := below_step hB1 g4.m.bel
         clear d0 d1 d2 f0 f1 f2
         have b1 := blk_put bR2 0 (.slice none 0 0) rfl
         have b2 := blk_put b1 1 (.slice none 0 0) rfl
         have b3 := blk_put b2 2 (.slice none 0 0) rfl
         refine bodyPost_ret (results_ct rfl _ _ w.heap.size 37 #[.slice none 0 0, .slice none 0 0, .slice none 0 0] (0, 0) _ rfl b3 Tryd.underlying37 rfl (by kernel_rfl)) rfl ⟨_, _, _, rfl, Kd.R_nil _ _ _ _ _, Kd.R_nil _ _ _ _ _, Kd.R_nil _ _ _ _ _, ?_⟩
         exact ((hB.setCell (Nat.le_refl _) _).setCell (Nat.le_refl _) _).setCell (Nat.le_refl _) _
        ·have hgd : ¬ (c % 3 = 2 ∨ c / 3 = 2 ∨ 0 ≤ p.1.getD (c % 3) (-1)) := by rw [hX, hY, hy.out]; omega
         have HB2 := HB.out
         rw [colF_good (by rw [htD]; exact hlt) hgd, hX, hY, htD] at HB2
         have HB3 := Aside0.mk HB2
         have hyn1 : (0 ≤ y) = False := eq_false hyn
         have hv2 := hv.out.set X htl (ab Y)
         obtain ⟨z, hz⟩ : ∃ z, p.2.getD X ⟨#[]⟩ = z := ⟨_, rfl⟩
         have hz2 := Aside0.mk hz
         have hw2 : (0 ≤ (Y : Int) + 1 ∧ (Y : Int) + 1 ≤ 2) = True := eq_true (by omega)
         have hw3 : ((Y : Int) ≤ (Y : Int) + 1) = True := eq_true (by omega)
         have hY0 : (0 ≤ (Y : Int)) = True := eq_true (by omega)
         have hsl : ByteArray.extract ⟨#[97, 98]⟩ Y (Y + 1) = ab Y := by
          have : Y = 0 ∨ Y = 1 := by omega
          rcases this with rfl | rfl <;> rfl
         have hw1 := wrap_b hY2
         clear HB2 HB hbadr hgd hz
         go_wp2_with (first
          | (go_at_call 53; go_loud (
            with_reducible refine (hwide _).mono ?_
            rintro e w5 ⟨rfl, hb5⟩
            have g2 := hq.step hb5
            have kt := cell_up g2.m.bel et
            have kf := cell_up g2.m.bel ef
            have k9 := cell_up g2.m.bel e9
            have k3 : w5.cell? ⟨gp, 3, none⟩ = some (.slice (some a2) rows.length cn) := (blk_cell (blk_below bP g2.m.bel) 3).trans rfl))
          | (go_at_call 54; (with_reducible refine (hdg0.out _ c hlc).mono ?_); go_loud (
            rintro e w6 ⟨he, hb6⟩
            rw [hX] at he
            subst he
            have g3 := g2.step hb6))
          | (go_at_call 54; (with_reducible refine (hdg1.out _ c hlc).mono ?_); go_loud (
            rintro e w7 ⟨he, hb7⟩
            rw [hY] at he
            subst he
            have g4 := g3.step hb7
            have kN : w7.cell? ⟨gN, X, none⟩ = some (.int .i64 y) := by rw [← hy.out]; exact (blk_cell g4.bN X).trans (encI_get hv.out.lN hX2)
            have fN : w7.frozen? ⟨gN, X, none⟩ = false := blk_frozen g4.bN X
            have k2 := Keep.set w7 ⟨gN, X, none⟩ (.int .i64 (t : Int))
            have bO2 := k2.obj g4.bO (off_ne g4.bO (Off.cells g4.bN (by decide)))
            have f2 : w7.frozen? ⟨gO, X, none⟩ = false := blk_frozen g4.bO X
            have c2 := (blk_cell bO2 X).trans (encT_get hv.out.lO hX2)
            rw [hz2.out] at c2
            have g5 := (g4.setN X (t : Int)).setO X (ab Y))))
         clear hw1 hw2 hw3 hsl
         go_roundg (8 - (c + 1))
         case measure => have := hkq.out; omega
         case rel => exact ⟨c + 1, _, (by clear hX hY hkq; refine congrArg _ ?_; unfold wrap64; omega), ⟨rfl⟩, by omega, HB3, ⟨hv2⟩, ⟨g5⟩⟩
    ·have hcc : c = 8 := by omega
     subst hcc
     have hcr2 : some p = cr := HR.out
     subst hcr2
     have HH2 := Aside0.mk (show scr lv rows kf (i + 1) (numF 1 (numF 0 (li, p.1))).1 (nx ++ [(numF 1 (numF 0 (li, p.1))).2]) (ot ++ [p.2]) = some res from HH.out)
     clear HH HR
     go_wp2_with (go_at_call 53; go_loud (
       with_reducible refine (hwide _).mono ?_
       rintro e w5 ⟨rfl, hb5⟩
       have g2 := hq.step hb5))
     have hn0 : NumOk rows.length li 0 tab (li, p.1) := ⟨hTab.out, ⟨[], by simp⟩, hv.out.lN, fun j _ hj => by
      have hl : j < p.1.length := by rw [hv.out.lN]; exact hj
      have e : p.1.getD j (-1) = p.1[j] := by simp [List.getD_eq_getElem?_getD, hl]
      rw [e]
      exact hv.out.st _ (List.getElem_mem hl)⟩
     go_loopg [8, 18] 2 (fun kq v8 v18 wq => ∃ (x : Nat) (q : List Nat × List Int) (tab : List Int) (A' : Option Addr) (c' : Nat), v8 = .slice A' q.1.length c' ∧ v18 = .int .i64 (x : Int) ∧ Aside0 (kq = 2 - x) ∧ x ≤ 2 ∧ Aside0 (numFrom x q = numF 1 (numF 0 (li, p.1))) ∧ Aside0 (NumOk rows.length li x tab q) ∧
      Aside0 (NowS w1 w1.heap.size gT rows.length cT gN gO (tab.map (· + 1)) (.slice A' q.1.length c') (q.1, q.2, p.2) vA ((li.take i).map (acF accs)) vN nx vO ot wq))
     case atStart => exact ⟨0, (li, p.1), tab, _, _, rfl, rfl, ⟨rfl⟩, by omega, ⟨rfl⟩, ⟨hn0⟩, ⟨g2⟩⟩
     case round =>
      clear hn0 g2
      obtain ⟨x, q, tab, A', c', rfl, rfl, hkx, hx2, HN, hno, hz⟩ := hrel
      replace hz := hz.out
      by_cases hlx : x < 2
      ·have HN1 := HN.out
       rw [numFrom_step hlx] at HN1
       have HN2 := Aside0.mk HN1
       clear HN1 HN
       have hlx1 : ((x : Int) < 2) = True := eq_true (by omega)
       have h0x : (0 ≤ (x : Int)) = True := eq_true (by omega)
       obtain ⟨y, hy⟩ : ∃ y, q.2.getD x (-1) = y := ⟨_, rfl⟩
       have kN : wr.cell? ⟨gN, x, none⟩ = some (.int .i64 y) := by rw [← hy]; exact (blk_cell hz.bN x).trans (encI_get hno.out.len hlx)
       rcases hno.out.st x (Nat.le_refl _) hlx with he | ⟨t, htl, he⟩
       ·rw [hy] at he
        subst he
        have hnf : numF x q = q := by unfold numF; rw [hy, if_pos (by omega)]
        have HN3 := HN2.out
        rw [hnf] at HN3
        have HN4 := Aside0.mk HN3
        have hno2 : NumOk rows.length li (x + 1) tab q := ⟨hno.out.tab, hno.out.pre, hno.out.len, fun j h1 h2 => hno.out.st j (by omega) h2⟩
        clear HN2 HN3 hnf
        go_wp2_with fail
        go_roundg (2 - (x + 1))
        case measure => have := hkx.out; omega
        case rel => exact ⟨x + 1, q, tab, A', c', rfl, (by go_num), ⟨rfl⟩, by omega, HN4, ⟨hno2⟩, ⟨hz⟩⟩
       ·rw [hy] at he
        subst he
        have hyn : ((t : Int) < 0) = False := eq_false (by omega)
        have h0t : (0 ≤ (t : Int)) = True := eq_true (by omega)
        have hta : ((t : Int) < (accs.length : Int)) = True := eq_true (by have := hcl.len; omega)
        have htr : ((t : Int) < (rows.length : Int)) = True := eq_true (by omega)
        have fN : wr.frozen? ⟨gN, x, none⟩ = false := blk_frozen hz.bN x
        have hl2 : t < (tab.map (· + 1)).length := by rw [List.length_map, hno.out.tab.len]; exact htl
        have etab := sr_at hz.m.tab hl2
        rw [List.getElem_map] at etab
        have hl3 : t < tab.length := by rw [hno.out.tab.len]; exact htl
        rcases tab_at hno.out.tab htl with ⟨hfn, hm1, hnm⟩ | ⟨j, hfj, hm1, hjl⟩
        ·rw [List.getElem?_eq_getElem hl3] at hm1
         rw [Option.some.inj hm1] at etab
         have HN3 := HN2.out
         rw [numF_miss hy hfn] at HN3
         have HN4 := Aside0.mk HN3
         have hno2 := hno.out.more htl hnm (q.1.length : Int) (x := x)
         have hlL : q.1.length + 1 ≤ rows.length := by have := hno2.tab.le; simpa using this
         have etab2 : wr.cell? ⟨gT, t, none⟩ = some (.int .i64 0) := etab
         have htab3 : (tab.map (· + 1)).set t ((q.1.length : Int) + 1) = (tab.set t (q.1.length : Int)).map (· + 1) := by rw [List.map_set]
         replace htab3 := Aside0.mk htab3
         have hjw : wrap64 ((q.1.length : Int) + 1 - 1) = (q.1.length : Int) := by unfold wrap64; omega
         have hgw := hgT
         have hgTr := Kd.R_lt hz.m.tab gT rfl
         clear HN2 HN3 hfn hm1 hnm etab
         go_wp2_with ((with_reducible refine gate_builtin (b := .append) (xs := #[.tmp 134, .tmp 136]) rfl ?_); go_loud (
          at_builtin
          refine R_append' (Kd.int .i64) (w0 := w1) w1.heap.size rfl (.tmp 134) (.tmp 136) 75 2 (.int .i64 0) 8 rfl Tryd.underlying75 info_long rfl (by decide) (by decide) (.slice A' q.1.length c') (ints q.1) (t : Int) [.int .i64 (t : Int)] (fun _ => True) (fun _ => False) _ (by simp) rfl rfl rfl (fun _ h => h.elim) (fun _ _ => trivial) hz.m.lst hz.m.bel (Below.size hz.m.bel) (by rw [ints_length]; omega) ?_
          intro v5 w5 hR5 hb5 hg5 hat5
          obtain ⟨A5, c5, hv5⟩ := Kd.R_slice hR5
          have ev5 : (ints q.1 ++ [(t : Int)]).length = q.1.length + 1 := by simp [ints, GwI.ints]
          rw [ev5] at hv5
          clear ev5
          subst hv5
          have ei5 : ints q.1 ++ [(t : Int)] = ints (q.1 ++ [t]) := by simp [ints, GwI.ints]
          rw [ei5] at hR5
          clear ei5
          have h5 := hz.push hgTr hg5 hat5 hR5 hb5
          have et5 := sr_at h5.m.tab hl2
          obtain ⟨_, cells5, hcT5⟩ := row_blk h5.m.tab (by omega)
          have fT5 : w5.frozen? ⟨gT, t, none⟩ = false := blk_frozen hcT5 t
          clear hcT5 cells5
          have h6 := h5.setT hgw t ((q.1.length : Int) + 1)
          have et6 := sr_at h6.m.tab (i := t) (by rw [List.length_set]; exact hl2)
          rw [List.getElem_set_self] at et6
          have kN6 := (blk_cell h6.bN x).trans (encI_get hno.out.len hlx)
          rw [hy] at kN6
          have fN6 : (w5.setCell ⟨gT, t, none⟩ (.int .i64 ((q.1.length : Int) + 1))).frozen? ⟨gN, x, none⟩ = false := blk_frozen h6.bN x))
         clear hjw
         rw [htab3.out] at h6
         have h7 := h6.setN x (q.1.length : Int)
         go_roundg (2 - (x + 1))
         case measure => have := hkx.out; omega
         case rel => exact ⟨x + 1, (q.1 ++ [t], q.2.set x (q.1.length : Int)), tab.set t (q.1.length : Int), A5, c5, (by simp), (by go_num), ⟨rfl⟩, by omega, HN4, ⟨hno2⟩, ⟨by have e : (q.1 ++ [t]).length = q.1.length + 1 := (by simp); rw [e]; exact h7⟩⟩
        ·rw [List.getElem?_eq_getElem hl3] at hm1
         rw [Option.some.inj hm1] at etab
         have HN3 := HN2.out
         rw [numF_hit hy hfj] at HN3
         have HN4 := Aside0.mk HN3
         have hno2 := hno.out.set (j : Int) (x := x)
         have hj0 : ((j : Int) + 1 = 0) = False := eq_false (by omega)
         have hj1 : ((j : Int) + 1 == 0) = false := by simp <;> omega
         have hjb : j < 1000000 := by have := hno.out.tab.le; omega
         have hjw : wrap64 ((j : Int) + 1 - 1) = (j : Int) := by unfold wrap64; omega
         replace hjw := hjw
         clear HN2 HN3 hfj hm1
         go_wp2_with fail
         clear hjw
         go_roundg (2 - (x + 1))
         case measure => have := hkx.out; omega
         case rel => exact ⟨x + 1, (q.1, q.2.set x (j : Int)), tab, A', c', rfl, (by go_num), ⟨rfl⟩, by omega, HN4, ⟨hno2⟩, ⟨hz.setN x (j : Int)⟩⟩
      ·have hxx : x = 2 := by omega
       subst hxx
       have hqe : q = numF 1 (numF 0 (li, p.1)) := HN.out
       have H3 := HH2.out
       rw [← hqe] at H3
       have HH3 := Aside0.mk H3
       clear H3 HN hqe HH2
       have hka : k < accs.length := by have := hcl.len; omega
       have hka1 : ((k : Int) < (accs.length : Int)) = True := eq_true (by omega)
       obtain ⟨am, rfl, km⟩ := at_mark hA1 k hka
       obtain ⟨bx, hbx⟩ : ∃ bx, acF accs k = bx := ⟨_, rfl⟩
       rw [← acF_get hka, hbx] at km
       have hbx2 := Aside0.mk hbx
       have hk2 := Aside0.mk hk
       have hlen2 := Aside0.mk hcl.len
       have hil2 : i ≤ 1000000 := by have := hTab.out.le; omega
       clear hbx hk
       go_wp2_with fail
       have hB : ∀ W', Below w1.heap.size w1 W' → W'.cell? ⟨gp, 2, none⟩ = some (.slice (some am) accs.length ca) ∧ W'.cell? (am.add k) = some (.bool bx) := fun W' hb => ⟨(blk_cell (blk_below bP hb) 2).trans rfl, cell_up hb km⟩
       have hSS : ∀ W' vA' bs', NowS w1 w1.heap.size gT rows.length cT gN gO (tab.map (· + 1)) (.slice A' q.1.length c') (q.1, q.2, p.2) vA' bs' vN nx vO ot W' → W'.cell? ⟨w1.heap.size, 0, none⟩ = some vA' ∧ W'.cell? ⟨gp, 2, none⟩ = some (.slice (some am) accs.length ca) ∧ W'.cell? (am.add k) = some (.bool bx) := fun W' vA' bs' h => ⟨(blk_cell h.m.bX 0).trans rfl, hB W' h.m.bel⟩
       have hQd := hz.step (below_drew1 (Below.refl _ _))
       refine start_ (n := 13) (S := fun w' => w'.cell? ⟨w1.heap.size, 0, none⟩ = some vA ∧ w'.cell? ⟨gp, 2, none⟩ = some (.slice (some am) accs.length ca) ∧ w'.cell? (am.add k) = some (.bool bx)) (ds := [12]) (.replicate 13 false) (by kernel_rfl) rfl rfl (hSS _ _ _ hQd) (fun hHeld => ?_)
       refine pure_ (i := 0) (N := some 150) (v := ?_) (a' := ?_) (zb 13 1) rfl rfl (by kernel_rfl) (fun _ _ _ h => h) (Or.inl ⟨by rfl, ?_⟩) ?_ ?_
       rotate_left
       ·intro w'
        go_simp
        with_reducible rfl
       rotate_left
       ·simp only [Act.put, Za, Zb, Zc, i64_w, i32_w]
        rfl
       refine pure_ (i := 2) (N := some 152) (v := ?_) (a' := ?_) (zb 13 5) rfl rfl (by kernel_rfl) (fun _ _ _ h => h) (Or.inl ⟨by rfl, ?_⟩) ?_ ?_
       rotate_left
       ·intro w'
        go_simp
        with_reducible rfl
       rotate_left
       ·simp only [Act.put, Za, Zb, Zc, i64_w, i32_w]
        rfl
       refine pure_ (i := 3) (N := some 153) (v := ?_) (a' := ?_) (zb 13 13) rfl rfl (by kernel_rfl) (fun _ _ _ h => h) (Or.inl ⟨by rfl, ?_⟩) ?_ ?_
       rotate_left
       ·intro w'
        go_simp
        with_reducible rfl
       rotate_left
       ·simp only [Act.put, Za, Zb, Zc, i64_w, i32_w]
        rfl
       refine pure_ (i := 4) (N := some 154) (v := ?_) (a' := ?_) (zb 13 29) rfl rfl (by kernel_rfl) (fun _ _ _ h => h) (Or.inl ⟨by rfl, ?_⟩) ?_ ?_
       rotate_left
       ·intro w'
        go_simp
        with_reducible rfl
       rotate_left
       ·simp only [Act.put, Za, Zb, Zc, i64_w, i32_w]
        rfl
       refine pure_ (i := 6) (N := some 156) (v := ?_) (a' := ?_) (zb 13 93) rfl rfl (by kernel_rfl) (fun _ _ _ h => h) (Or.inl ⟨by rfl, ?_⟩) ?_ ?_
       rotate_left
       ·intro w'
        go_simp
        with_reducible rfl
       rotate_left
       ·simp only [Act.put, Za, Zb, Zc, i64_w, i32_w]
        rfl
       refine take_ (i := 1) (N := some 151) (v := ?_) (a' := ?_) (zb 13 95) rfl rfl (by kernel_rfl) (fun _ _ _ h => h) (Or.inl ⟨by rfl, ?_⟩) hHeld ?_ ?_
       rotate_left
       ·rintro w' ⟨s1, s2, s3⟩
        go_simp
        with_reducible rfl
       rotate_left
       ·simp only [Act.put, Za, Zb, Zc, i64_w, i32_w]
        rfl
       refine take_ (i := 5) (N := some 155) (v := ?_) (a' := ?_) (zb 13 127) rfl rfl (by kernel_rfl) (fun _ _ _ h => h) (Or.inl ⟨by rfl, ?_⟩) hHeld ?_ ?_
       rotate_left
       ·rintro w' ⟨s1, s2, s3⟩
        go_simp
        with_reducible rfl
       rotate_left
       ·simp only [Act.put, Za, Zb, Zc, i64_w, i32_w]
        rfl
       refine pure_ (i := 7) (N := some 157) (v := ?_) (a' := ?_) (zb 13 255) rfl rfl (by kernel_rfl) (fun _ _ _ h => h) (Or.inl ⟨by rfl, ?_⟩) ?_ ?_
       rotate_left
       ·intro w'
        go_simp
        with_reducible rfl
       rotate_left
       ·simp only [Act.put, Za, Zb, Zc, i64_w, i32_w]
        rfl
       refine take_ (i := 8) (N := some 158) (v := ?_) (a' := ?_) (zb 13 511) rfl rfl (by kernel_rfl) (fun _ _ _ h => h) (Or.inl ⟨by rfl, ?_⟩) hHeld ?_ ?_
       rotate_left
       ·rintro w' ⟨s1, s2, s3⟩
        go_simp
        with_reducible rfl
       rotate_left
       ·simp only [Act.put, Za, Zb, Zc, i64_w, i32_w]
        rfl
       refine one_ (i := 9) (N := some 159) (zb 13 1023) rfl rfl (by kernel_rfl) (by decide) (fun K hK => ?_)
       refine value_ (w1 := wr.drew.alloc (.cells #[.bool bx] 4)) (v := .slice (some ⟨wr.drew.heap.size, 0, none⟩) 1 1) (by rfl) rfl (by first | (go_simp; done) | (go_simp; rfl)) ?_
       have hQ5 := hQd.step (below_alloc (Below.refl _ _) (.cells #[.bool bx] 4))
       refine hK.out _ _ (hSS _ _ _ hQ5) (fun hHeld => ?_)
       clear hK K
       refine norm_ (a' := ?_) ?_ ?_
       rotate_left
       ·show Act.put _ (some 159) _ = _
        simp only [Act.put, Za, Zb, Zc, i64_w, i32_w]
        rfl
       refine one_ (i := 10) (N := some 160) (zb 13 2047) rfl rfl (by kernel_rfl) (by decide) (fun K hK => ?_)
       refine Kd.R_append_step Kd.bool (w0 := w1) w1.heap.size (by rfl) (.tmp 151) (.tmp 159) 22 4 (.bool false) 1 rfl Tryd.underlying22 GwI.info_bool rfl (by decide) (by decide) vA ((li.take i).map (acF accs)) bx [.bool bx] (fun _ => True) (fun _ => False) rfl rfl rfl (fun _ h => h.elim) (fun _ _ => trivial) hQd.m.acc hQd.m.bel (Below.size hQd.m.bel) (by simp <;> omega) ?_
       intro v6 w6 hR6 hb6 hg6 hat6
       obtain ⟨A6, c6, hv6⟩ := Kd.R_slice hR6
       subst hv6
       obtain ⟨b26, hQ6⟩ := hQd.mark hg6 hR6 hb6
       refine hK.out _ _ ⟨(blk_cell b26 0).trans rfl, hB _ hb6⟩ (fun hHeld => ?_)
       clear hK K
       refine norm_ (a' := ?_) ?_ ?_
       rotate_left
       ·show Act.put _ (some 160) _ = _
        simp only [Act.put, Za, Zb, Zc, i64_w, i32_w]
        rfl
       refine pure_ (i := 11) (N := some 161) (v := ?_) (a' := ?_) (zb 13 4095) rfl rfl (by kernel_rfl) (fun _ _ _ h => h) (Or.inl ⟨by rfl, ?_⟩) ?_ ?_
       rotate_left
       ·intro w'
        go_simp
        with_reducible rfl
       rotate_left
       ·simp only [Act.put, Za, Zb, Zc, i64_w, i32_w]
        rfl
       refine last_ (i := 12) (N := none) (zb 13 8191) rfl rfl (by kernel_rfl) (by decide) (fun K hK => ?_)
       have hf6 : w6.frozen? ⟨w1.heap.size, 0, none⟩ = false := blk_frozen b26 0
       have hc6 : w6.cell? ⟨w1.heap.size, 0, none⟩ = some vA := (blk_cell b26 0).trans rfl
       refine skip_ (w1 := w6.setCell ⟨w1.heap.size, 0, none⟩ (.slice A6 (((li.take i).map (acF accs)) ++ [bx]).length c6)) (by rfl) rfl (by first | (go_simp; done) | (go_simp; rfl)) ?_
       refine hK.out _ _ ?_
       clear hK K
       refine done_ (by kernel_rfl) ?_
       clear hSS hB hQd hQ5 hf6 hc6 b26 hR6 hb6 hg6 hHeld hz
       generalize w6.setCell ⟨w1.heap.size, 0, none⟩ (.slice A6 (((li.take i).map (acF accs)) ++ [bx]).length c6) = w7 at *
       obtain ⟨n0, n1, hN2⟩ := two_list hno.out.len
       obtain ⟨t0, t1, hO2⟩ := two_list hv.out.lO
       have hgN7 := blk_lt hQ6.bN
       have hgO7 := blk_lt hQ6.bO
       have bN7 := hQ6.bN
       rw [hN2] at bN7
       have k0 : w7.cell? ⟨gN, 0, none⟩ = some (.int .i64 n0) := (blk_cell bN7 0).trans rfl
       have k1 : w7.cell? ⟨gN, 1, none⟩ = some (.int .i64 n1) := (blk_cell bN7 1).trans rfl
       have c71 : w7.cell? ⟨w1.heap.size, 1, none⟩ = some vN := (blk_cell hQ6.m.bX 1).trans rfl
       have hnl2 : nx.length ≤ 1000000 := by have := hnl.out; omega
       have hol2 : ot.length ≤ 1000000 := by have := hol.out; omega
       clear bN7
       go_wp2_with (first
       | ((with_reducible refine gate_builtin (b := .append) (xs := #[.tmp 163, .tmp 165]) rfl ?_); go_loud (
         at_builtin
         refine R_append' Pair (w0 := w1) w1.heap.size rfl (.tmp 163) (.tmp 165) 34 78 (.agg #[.int .i64 0, .int .i64 0]) 16 rfl Tryd.underlying34 info_pair rfl (by decide) (by decide) vN nx [n0, n1] [.int .i64 n0, .int .i64 n1] (fun k => some k ≠ some gN) (fun _ => False) _ (by simp) rfl rfl (Kd.arr_of_cells rfl) (fun _ h => h.elim) (fun k hk e => by have := Option.some.inj e; omega) hQ6.m.nxt hQ6.m.bel (Below.size hQ6.m.bel) (by omega) ?_
         intro v8 w8 hR8 hb8 hg8 hat8
         obtain ⟨A8, c8, hv8⟩ := Kd.R_slice hR8
         rw [List.length_append, List.length_singleton] at hv8
         subst hv8
         obtain ⟨b28, m8, o8⟩ := hQ6.addN hg8 hR8 hb8
         rw [hO2] at o8
         have c81 : w8.cell? ⟨w1.heap.size, 1, none⟩ = some vN := (blk_cell b28 1).trans rfl
         have f81 : w8.frozen? ⟨w1.heap.size, 1, none⟩ = false := blk_frozen b28 1
         have c82 : w8.cell? ⟨w1.heap.size, 2, none⟩ = some vO := (blk_cell b28 2).trans rfl
         have j0 : (w8.setCell ⟨w1.heap.size, 1, none⟩ (.slice A8 (nx.length + 1) c8)).cell? ⟨gO, 0, none⟩ = some (.string t0) := (blk_cell o8 0).trans rfl
         have j1 : (w8.setCell ⟨w1.heap.size, 1, none⟩ (.slice A8 (nx.length + 1) c8)).cell? ⟨gO, 1, none⟩ = some (.string t1) := (blk_cell o8 1).trans rfl
         have hg8O := blk_lt o8))
       | ((with_reducible refine gate_builtin (b := .append) (xs := #[.tmp 169, .tmp 171]) rfl ?_); go_loud (
         at_builtin
         refine R_append' Text2 (w0 := w1) w1.heap.size rfl (.tmp 169) (.tmp 171) 35 79 (.agg #[.string ⟨#[]⟩, .string ⟨#[]⟩]) 32 rfl Tryd.underlying35 info_text2 rfl (by decide) (by decide) vO ot [t0, t1] [.string t0, .string t1] (fun k => some k ≠ some gO) (fun _ => False) _ (by simp) rfl rfl (Kd.arr_of_cells rfl) (fun _ h => h.elim) (fun k hk e => by have := Option.some.inj e; omega) m8.out m8.bel (Below.size m8.bel) (by omega) ?_
         intro v9 w9 hR9 hb9 hg9 hat9
         obtain ⟨A9', c9', hv9⟩ := Kd.R_slice hR9
         rw [List.length_append, List.length_singleton] at hv9
         subst hv9
         obtain ⟨b29, m9⟩ := m8.addO hg9 hR9 hb9
         have c92 : w9.cell? ⟨w1.heap.size, 2, none⟩ = some vO := (blk_cell b29 2).trans rfl
         have f92 : w9.frozen? ⟨w1.heap.size, 2, none⟩ = false := blk_frozen b29 2)))
       obtain ⟨mm, hmm⟩ := hno.out.pre
       have hli2 : i < li.length := hlt
       have hqlen : i + 1 ≤ q.1.length := by rw [hmm, List.length_append]; omega
       go_roundg kf
       case measure => omega
       case rel =>
        have e1 : (q.1.take (i + 1)).map (acF accs) = (li.take i).map (acF accs) ++ [bx] := by
         rw [take_step hmm hli2 (by rw [List.getElem?_eq_getElem hli2, hk2.out]), List.map_append, ← hbx2.out]
         rfl
        have h9 := m9.done
        exact ⟨i + 1, q.1, tab, nx ++ [[n0, n1]], ot ++ [[t0, t1]], _, _, _, _, _, rfl, (by go_num), ⟨by rw [← hN2, ← hO2]; exact HH3.out⟩, ⟨by have := hnl.out; simp; omega⟩, ⟨by have := hol.out; simp; omega⟩, hqlen, ⟨hno.out.tab⟩, ⟨by rw [e1]; exact h9⟩⟩
  ·rw [dif_neg hlt] at H1
   have hres2 : some (li, nx, ot) = res := Option.some.inj H1
   subst hres2
   have hii : i = li.length := by omega
   subst hii
   clear H H1
   rw [List.take_of_length_le (Nat.le_refl _)] at h
   have hlt1 : ((li.length : Int) < (li.length : Int)) = False := eq_false (by omega)
   have d0 : wo.cell? ⟨w1.heap.size, 0, none⟩ = some vA := (blk_cell h.bX 0).trans rfl
   have d1 : wo.cell? ⟨w1.heap.size, 1, none⟩ = some vN := (blk_cell h.bX 1).trans rfl
   have d2 : wo.cell? ⟨w1.heap.size, 2, none⟩ = some vO := (blk_cell h.bX 2).trans rfl
   have b := blk_below bR h.bel
   have e0 : wo.cell? ⟨w.heap.size, 0, none⟩ = some (.slice none 0 0) := (blk_cell b 0).trans rfl
   have e1 : wo.cell? ⟨w.heap.size, 1, none⟩ = some (.slice none 0 0) := (blk_cell b 1).trans rfl
   have e2 : wo.cell? ⟨w.heap.size, 2, none⟩ = some (.slice none 0 0) := (blk_cell b 2).trans rfl
   have f0 : wo.frozen? ⟨w.heap.size, 0, none⟩ = false := blk_frozen b 0
   have f1 : wo.frozen? ⟨w.heap.size, 1, none⟩ = false := blk_frozen b 1
   have f2 : wo.frozen? ⟨w.heap.size, 2, none⟩ = false := blk_frozen b 2
   have hB := below_step hB1 h.bel
   have hlow := Below.size hB1
   obtain ⟨AX, cX, hvA⟩ := Kd.R_slice h.acc
   obtain ⟨BX, dX, hvN⟩ := Kd.R_slice h.nxt
   obtain ⟨CX, eX, hvO⟩ := Kd.R_slice h.out
   subst hvA
   subst hvN
   subst hvO
   go_wp2_with fail
   clear d0 d1 d2 e0 e1 e2 f0 f1 f2
   have b1 := blk_put b 0 (.slice AX (li.map (acF accs)).length cX) rfl
   have b2 := blk_put b1 1 (.slice BX nx.length dX) rfl
   have b3 := blk_put b2 2 (.slice CX ot.length eX) rfl
   simp only [List.length_map] at b3 ⊢
   refine bodyPost_ret (results_ct rfl _ _ (w.heap.size) 37 #[.slice AX li.length cX, .slice BX nx.length dX, .slice CX ot.length eX] (0, 0) _ rfl b3 Tryd.underlying37 rfl (by kernel_rfl)) rfl ⟨_, _, _, rfl, ?_, ?_, ?_, ?_⟩
   ·have hA2 := Kd.R_set (Kd.R_set (Kd.R_set (Kd.R_lower h.acc hlow) b (by decide) 0 (.slice AX (li.map (acF accs)).length cX)) b1 (by decide) 1 (.slice BX nx.length dX)) b2 (by decide) 2 (.slice CX ot.length eX)
    simp only [List.length_map] at hA2
    exact hA2
   ·have hA2 := Kd.R_mono (Kd.R_set (Kd.R_set (Kd.R_set (Kd.R_lower h.nxt hlow) b (by decide) 0 (.slice AX (li.map (acF accs)).length cX)) b1 (by decide) 1 (.slice BX nx.length dX)) b2 (by decide) 2 (.slice CX ot.length eX)) (ok' := fun _ => True) (fun _ _ => trivial)
    simp only [List.length_map] at hA2
    exact hA2
   ·have hA2 := Kd.R_mono (Kd.R_set (Kd.R_set (Kd.R_set (Kd.R_lower h.out hlow) b (by decide) 0 (.slice AX (li.map (acF accs)).length cX)) b1 (by decide) 1 (.slice BX nx.length dX)) b2 (by decide) 2 (.slice CX ot.length eX)) (ok' := fun _ => True) (fun _ _ => trivial)
    simp only [List.length_map] at hA2
    exact hA2
   ·exact ((hB.setCell (Nat.le_refl _) _).setCell (Nat.le_refl _) _).setCell (Nat.le_refl _) _
end Go.Proofs.YtnjdkhnepmmfgaaDoor.Sp
namespace Go.Proofs.YtnjdkhnepmmfgaaDoor.Sp
set_option linter.unusedVariables false
set_option linter.unusedSimpArgs false
open Go.RowKit Go.Proofs.YtnjdkhnepmmfgaaDoorW.PrintWords Go.Proofs.YtnjdkhnepmmfgaaDoorW.PrintLast Go.Proofs.YtnjdkhnepmmfgaaDoorW.PrintMore Mp Kp Mg Tdy Rg Tw Sb
set_option maxHeartbeats 8000000 in
set_option maxRecDepth 100000 in
theorem scribe_dead (tapes : Int) (start : Nat) (accs : List Bool) (rows : List (List Nat)) (hcl : Closed 8 rows accs) (hn : rows.length ≤ 1000000) (hst : start < rows.length)
  (lv : Nat → Bool) (w : World) (gp : Nat) (AA : Option Addr) (ca : Nat) (AN : Option Addr) (cn : Nat) (hP : w.heap[gp]? = some (.cells #[.int .i64 tapes, .int .i64 start, .slice AA accs.length ca, .slice AN rows.length cn] 27 (0, 0)))
  (hA : Kd.C Kd.bool w AA accs.length accs) (hN : Kd.C (Kd.slice 2 (Kd.int .i64)) w AN rows.length (rows.map ints)) (hca : accs.length ≤ ca) (hcn : rows.length ≤ cn)
  (hfar : ∀ W, Below w.heap.size w W → Calls Tryd.prog 81 #[.pointer (some ⟨gp, 0, none⟩)] W fun e W' => ∃ v, e = .returned v ∧ Kd.R Kd.bool 4 W' W.heap.size (fun _ => True) v ((List.range rows.length).map lv) ∧ Below W.heap.size W W')
  (hwide : ∀ W, Calls Tryd.prog 53 #[.int .i64 2] W fun e W' => e = .returned (.int .i64 8) ∧ Below W.heap.size W W')
  (hdig0 : ∀ W (c : Nat), c < 8 → Calls Tryd.prog 54 #[.int .i64 (c : Int), .int .i64 0] W fun e W' => e = .returned (.int .i64 ((c % 3 : Nat) : Int)) ∧ Below W.heap.size W W')
  (hdig1 : ∀ W (c : Nat), c < 8 → Calls Tryd.prog 54 #[.int .i64 (c : Int), .int .i64 1] W fun e W' => e = .returned (.int .i64 ((c / 3 : Nat) : Int)) ∧ Below W.heap.size W W')
  (hdead : lv start = false) :
  Calls Tryd.prog 40 #[.pointer (some ⟨gp, 0, none⟩)] w fun e w' => ∃ vA vN vO, e = .returned (.tuple #[.agg #[vA, vN, vO], .bool true]) ∧
   Kd.R Kd.bool 4 w' w.heap.size (fun _ => True) vA [false] ∧ Kd.R Pair 78 w' w.heap.size (fun _ => True) vN [[-1, -1]] ∧ Kd.R Text2 79 w' w.heap.size (fun _ => True) vO [[⟨#[]⟩, ⟨#[]⟩]] ∧ Below w.heap.size w w' := by
 have hgp := blk_lt hP
 go_enter Tryd.func40, Tryd.ntmps40
 go_wp2_with (first
  | (go_at_call 81; go_loud (
    have hB0 := below_alloc (Below.refl w.heap.size w) (.cells #[.slice none 0 0, .slice none 0 0, .slice none 0 0] 37)
    with_reducible refine (hfar _ hB0).mono ?_
    rintro e w1 ⟨vF, rfl, rF, hb1⟩
    have bR := blk_below (blk_new w (.cells #[.slice none 0 0, .slice none 0 0, .slice none 0 0] 37)) hb1
    have bP := blk_below (blk_alloc hP (.cells #[.slice none 0 0, .slice none 0 0, .slice none 0 0] 37)) hb1
    have hB1 := below_step hB0 hb1
    obtain ⟨AF, cF, hvF⟩ := Kd.R_slice rF
    subst hvF
    rw [List.length_map, List.length_range] at rF
    obtain ⟨hq1, hq2, hCF⟩ := Kd.R_reads' rF
    clear hq1
    rw [List.length_map, List.length_range] at hCF ⊢
    have hbA := below_alloc (Below.refl w1.heap.size w1) (.cells #[.slice none 0 0, .slice none 0 0, .slice none 0 0] 37)
    obtain ⟨adF, rfl, kF⟩ := at_mark (Kd.C_below hCF hbA) start (by rw [List.length_map, List.length_range]; exact hst)
    rw [List.getElem_map, List.getElem_range, hdead] at kF
    have m1 : (w1.alloc (.cells #[.slice none 0 0, .slice none 0 0, .slice none 0 0] 37)).cell? ⟨gp, 1, none⟩ = some (.int .i64 (start : Int)) := (blk_cell (blk_alloc bP _) 1).trans rfl
    have hst2 : ((start : Int) < (rows.length : Int)) = True := eq_true (by omega)
    have h0s : (0 ≤ (start : Int)) = True := eq_true (by omega)))
  | (go_at_call 82; go_loud (
    with_reducible refine (refused _).mono ?_
    rintro e w5 ⟨rfl, hb5⟩
    have hB5 := below_step (below_alloc hB1 (.cells #[.slice none 0 0, .slice none 0 0, .slice none 0 0] 37)) hb5
    have bR5 := blk_below (blk_alloc bR (.cells #[.slice none 0 0, .slice none 0 0, .slice none 0 0] 37)) hb5
    have b := blk_alloc (blk_alloc (blk_alloc (blk_alloc (blk_alloc bR5 (.cells #[.int .i64 (-1), .int .i64 (-1)] 78)) (.cells #[.string ⟨#[]⟩, .string ⟨#[]⟩] 79)) (.cells #[.bool false] 4)) (.cells #[.int .i64 (-1), .int .i64 (-1)] 78)) (.cells #[.string ⟨#[]⟩, .string ⟨#[]⟩] 79)
    have d0 : (((((w5.alloc (.cells #[.int .i64 (-1), .int .i64 (-1)] 78)).alloc (.cells #[.string ⟨#[]⟩, .string ⟨#[]⟩] 79)).alloc (.cells #[.bool false] 4)).alloc (.cells #[.int .i64 (-1), .int .i64 (-1)] 78)).alloc (.cells #[.string ⟨#[]⟩, .string ⟨#[]⟩] 79)).cell? ⟨w.heap.size, 0, none⟩ = some (.slice none 0 0) := (blk_cell b 0).trans rfl
    have d1 : (((((w5.alloc (.cells #[.int .i64 (-1), .int .i64 (-1)] 78)).alloc (.cells #[.string ⟨#[]⟩, .string ⟨#[]⟩] 79)).alloc (.cells #[.bool false] 4)).alloc (.cells #[.int .i64 (-1), .int .i64 (-1)] 78)).alloc (.cells #[.string ⟨#[]⟩, .string ⟨#[]⟩] 79)).cell? ⟨w.heap.size, 1, none⟩ = some (.slice none 0 0) := (blk_cell b 1).trans rfl
    have d2 : (((((w5.alloc (.cells #[.int .i64 (-1), .int .i64 (-1)] 78)).alloc (.cells #[.string ⟨#[]⟩, .string ⟨#[]⟩] 79)).alloc (.cells #[.bool false] 4)).alloc (.cells #[.int .i64 (-1), .int .i64 (-1)] 78)).alloc (.cells #[.string ⟨#[]⟩, .string ⟨#[]⟩] 79)).cell? ⟨w.heap.size, 2, none⟩ = some (.slice none 0 0) := (blk_cell b 2).trans rfl
    have f0 : (((((w5.alloc (.cells #[.int .i64 (-1), .int .i64 (-1)] 78)).alloc (.cells #[.string ⟨#[]⟩, .string ⟨#[]⟩] 79)).alloc (.cells #[.bool false] 4)).alloc (.cells #[.int .i64 (-1), .int .i64 (-1)] 78)).alloc (.cells #[.string ⟨#[]⟩, .string ⟨#[]⟩] 79)).frozen? ⟨w.heap.size, 0, none⟩ = false := blk_frozen b 0
    have f1 : (((((w5.alloc (.cells #[.int .i64 (-1), .int .i64 (-1)] 78)).alloc (.cells #[.string ⟨#[]⟩, .string ⟨#[]⟩] 79)).alloc (.cells #[.bool false] 4)).alloc (.cells #[.int .i64 (-1), .int .i64 (-1)] 78)).alloc (.cells #[.string ⟨#[]⟩, .string ⟨#[]⟩] 79)).frozen? ⟨w.heap.size, 1, none⟩ = false := blk_frozen b 1
    have f2 : (((((w5.alloc (.cells #[.int .i64 (-1), .int .i64 (-1)] 78)).alloc (.cells #[.string ⟨#[]⟩, .string ⟨#[]⟩] 79)).alloc (.cells #[.bool false] 4)).alloc (.cells #[.int .i64 (-1), .int .i64 (-1)] 78)).alloc (.cells #[.string ⟨#[]⟩, .string ⟨#[]⟩] 79)).frozen? ⟨w.heap.size, 2, none⟩ = false := blk_frozen b 2)))
 clear d0 d1 d2 f0 f1 f2 kF m1
 have hB6 := below_alloc (below_alloc hB5 (.cells #[.int .i64 (-1), .int .i64 (-1)] 78)) (.cells #[.string ⟨#[]⟩, .string ⟨#[]⟩] 79)
 have hlow := Below.size hB6
 have hlow' : w.heap.size ≤ ((w5.alloc (.cells #[.int .i64 (-1), .int .i64 (-1)] 78)).alloc (.cells #[.string ⟨#[]⟩, .string ⟨#[]⟩] 79)).heap.size := hlow
 have rA := Kd.R_lower (R_one Kd.bool 4 ((w5.alloc (.cells #[.int .i64 (-1), .int .i64 (-1)] 78)).alloc (.cells #[.string ⟨#[]⟩, .string ⟨#[]⟩] 79)) ((w5.alloc (.cells #[.int .i64 (-1), .int .i64 (-1)] 78)).alloc (.cells #[.string ⟨#[]⟩, .string ⟨#[]⟩] 79)).heap.size (Nat.le_refl _) (y := false) (cs := [.bool false]) (okp := fun _ => False) (ok := fun _ => True) rfl (fun _ h => h.elim) trivial) hlow'
 have rN := Kd.R_lower (R_one Pair 78 (((w5.alloc (.cells #[.int .i64 (-1), .int .i64 (-1)] 78)).alloc (.cells #[.string ⟨#[]⟩, .string ⟨#[]⟩] 79)).alloc (.cells #[.bool false] 4)) ((w5.alloc (.cells #[.int .i64 (-1), .int .i64 (-1)] 78)).alloc (.cells #[.string ⟨#[]⟩, .string ⟨#[]⟩] 79)).heap.size (by simp) (y := [-1, -1]) (cs := [.int .i64 (-1), .int .i64 (-1)]) (okp := fun _ => False) (ok := fun _ => True) (Kd.arr_of_cells rfl) (fun _ h => h.elim) trivial) hlow'
 have rO := Kd.R_lower (R_one Text2 79 ((((w5.alloc (.cells #[.int .i64 (-1), .int .i64 (-1)] 78)).alloc (.cells #[.string ⟨#[]⟩, .string ⟨#[]⟩] 79)).alloc (.cells #[.bool false] 4)).alloc (.cells #[.int .i64 (-1), .int .i64 (-1)] 78)) ((w5.alloc (.cells #[.int .i64 (-1), .int .i64 (-1)] 78)).alloc (.cells #[.string ⟨#[]⟩, .string ⟨#[]⟩] 79)).heap.size (by simp <;> omega) (y := [⟨#[]⟩, ⟨#[]⟩]) (cs := [.string ⟨#[]⟩, .string ⟨#[]⟩]) (okp := fun _ => False) (ok := fun _ => True) (Kd.arr_of_cells rfl) (fun _ h => h.elim) trivial) hlow'
 replace rA := Kd.R_below (Kd.R_below rA (below_alloc (Below.refl _ _) (.cells #[.int .i64 (-1), .int .i64 (-1)] 78))) (below_alloc (Below.refl _ _) (.cells #[.string ⟨#[]⟩, .string ⟨#[]⟩] 79))
 replace rN := Kd.R_below rN (below_alloc (Below.refl _ _) (.cells #[.string ⟨#[]⟩, .string ⟨#[]⟩] 79))
 have hB := below_alloc (below_alloc (below_alloc hB6 (.cells #[.bool false] 4)) (.cells #[.int .i64 (-1), .int .i64 (-1)] 78)) (.cells #[.string ⟨#[]⟩, .string ⟨#[]⟩] 79)
 have z0 : ((w5.alloc (.cells #[.int .i64 (-1), .int .i64 (-1)] 78)).alloc (.cells #[.string ⟨#[]⟩, .string ⟨#[]⟩] 79)).heap.size = w5.heap.size + 1 + 1 := by simp
 have z1 : (((w5.alloc (.cells #[.int .i64 (-1), .int .i64 (-1)] 78)).alloc (.cells #[.string ⟨#[]⟩, .string ⟨#[]⟩] 79)).alloc (.cells #[.bool false] 4)).heap.size = w5.heap.size + 1 + 1 + 1 := by simp
 have z2 : ((((w5.alloc (.cells #[.int .i64 (-1), .int .i64 (-1)] 78)).alloc (.cells #[.string ⟨#[]⟩, .string ⟨#[]⟩] 79)).alloc (.cells #[.bool false] 4)).alloc (.cells #[.int .i64 (-1), .int .i64 (-1)] 78)).heap.size = w5.heap.size + 1 + 1 + 1 + 1 := by simp
 rw [z0] at rA
 rw [z1] at rN
 rw [z2] at rO
 clear z0 z1 z2 hlow hlow' hB6
 generalize (((((w5.alloc (.cells #[.int .i64 (-1), .int .i64 (-1)] 78)).alloc (.cells #[.string ⟨#[]⟩, .string ⟨#[]⟩] 79)).alloc (.cells #[.bool false] 4)).alloc (.cells #[.int .i64 (-1), .int .i64 (-1)] 78)).alloc (.cells #[.string ⟨#[]⟩, .string ⟨#[]⟩] 79)) = W3 at *
 have b1 := blk_put b 0 (.slice (some ⟨w5.heap.size + 1 + 1, 0, none⟩) 1 1) rfl
 have b2 := blk_put b1 1 (.slice (some ⟨w5.heap.size + 1 + 1 + 1, 0, none⟩) 1 1) rfl
 have b3 := blk_put b2 2 (.slice (some ⟨w5.heap.size + 1 + 1 + 1 + 1, 0, none⟩) 1 1) rfl
 refine bodyPost_ret (results_ct rfl _ _ w.heap.size 37 #[.slice (some ⟨w5.heap.size + 1 + 1, 0, none⟩) 1 1, .slice (some ⟨w5.heap.size + 1 + 1 + 1, 0, none⟩) 1 1, .slice (some ⟨w5.heap.size + 1 + 1 + 1 + 1, 0, none⟩) 1 1] (0, 0) _ rfl b3 Tryd.underlying37 rfl (by kernel_rfl)) rfl ⟨_, _, _, rfl, ?_, ?_, ?_, ?_⟩
 ·exact Kd.R_set (Kd.R_set (Kd.R_set rA b (by decide) 0 _) b1 (by decide) 1 _) b2 (by decide) 2 _
 ·exact Kd.R_set (Kd.R_set (Kd.R_set rN b (by decide) 0 _) b1 (by decide) 1 _) b2 (by decide) 2 _
 ·exact Kd.R_set (Kd.R_set (Kd.R_set rO b (by decide) 0 _) b1 (by decide) 1 _) b2 (by decide) 2 _
 ·exact ((hB.setCell (Nat.le_refl _) _).setCell (Nat.le_refl _) _).setCell (Nat.le_refl _) _
end Go.Proofs.YtnjdkhnepmmfgaaDoor.Sp
namespace Go.Proofs.YtnjdkhnepmmfgaaDoor.Sb
set_option linter.unusedVariables false
set_option linter.unusedSimpArgs false
open Go.RowKit Go.Proofs.YtnjdkhnepmmfgaaDoorW.PrintWords Go.Proofs.YtnjdkhnepmmfgaaDoorW.PrintLast Go.Proofs.YtnjdkhnepmmfgaaDoorW.PrintMore Mp Kp Ky Mg Tdy Rg Tw
set_option maxHeartbeats 8000000 in
set_option maxRecDepth 100000 in
theorem scribe_dead (tapes : Int) (start : Nat) (accs : List Bool) (rows : List (List Nat)) (hcl : Closed 8 rows accs) (hn : rows.length ≤ 1000000) (hst : start < rows.length)
  (lv : Nat → Bool) (fr : List Int) (hfl : fr.length = rows.length) (hfr : ∀ q, q < rows.length → (fr.getD q (-1) < 0 ↔ lv q = false))
  (w : World) (AA : Option Addr) (ca : Nat) (AN : Option Addr) (cn : Nat) (hA : Kd.C Kd.bool w AA accs.length accs) (hN : Kd.C (Kd.slice 3 (Kd.int .i64)) w AN rows.length (rows.map ints)) (hca : accs.length ≤ ca) (hcn : rows.length ≤ cn)
  (hfar : ∀ W, Below w.heap.size w W → Calls Tryd.prog 85 #[.agg #[.int .i64 tapes, .int .i64 start, .slice AA accs.length ca, .slice AN rows.length cn]] W fun e W' => ∃ v, e = .returned v ∧ Kd.R (Kd.int .i64) 3 W' W.heap.size (fun _ => True) v fr ∧ Below W.heap.size W W')
  (hcol : ∀ W A c (a b : Nat), a ≤ 2 → b ≤ 2 → Kd.C (Kd.int .i64) W A 2 [(a : Int), (b : Int)] → 2 ≤ c → Calls Tryd.prog 86 #[.slice A 2 c] W fun e W' => e = .returned (.int .i64 ((a + 3 * b : Nat) : Int)) ∧ Below W.heap.size W W')
  (hdead : lv start = false) :
  Calls Tryd.prog 43 #[.agg #[.int .i64 tapes, .int .i64 start, .slice AA accs.length ca, .slice AN rows.length cn]] w fun e w' => ∃ vA vN vO, e = .returned (.tuple #[.agg #[vA, vN, vO], .bool true]) ∧
   Kd.R Kd.bool 4 w' w.heap.size (fun _ => True) vA [false] ∧ Kd.R Pair 78 w' w.heap.size (fun _ => True) vN [[-1, -1]] ∧ Kd.R Text2 79 w' w.heap.size (fun _ => True) vO [[⟨#[]⟩, ⟨#[]⟩]] ∧ Below w.heap.size w w' := by
 have hk0 : keyOf Tryd.prog 3 (.int .i64 (start : Int)) = some (.int .i64 (start : Int)) := int_key ⟨by omega, by omega⟩
 have hnf : (fr.getD start (-1) < 0) = True := eq_true ((hfr start hst).2 hdead)
 obtain ⟨fS, hfS⟩ : ∃ x, fr.getD start (-1) = x := ⟨_, rfl⟩
 rw [hfS] at hnf
 replace hfS := Aside0.mk hfS
 go_enter Tryd.func43, Tryd.ntmps43
 go_wp2_with (first
  | (go_at_call 85; go_loud (
    have hB0 := below_alloc (below_alloc (Below.refl w.heap.size w) (.cells #[.int .i64 tapes, .int .i64 start, .slice AA accs.length ca, .slice AN rows.length cn] 66)) (.cells #[.slice none 0 0, .slice none 0 0, .slice none 0 0] 37)
    with_reducible refine (hfar _ hB0).mono ?_
    rintro e w1 ⟨vF, rfl, rF, hb1⟩
    have bM := blk_below (blk_alloc (blk_new w (.cells #[.int .i64 tapes, .int .i64 start, .slice AA accs.length ca, .slice AN rows.length cn] 66)) (.cells #[.slice none 0 0, .slice none 0 0, .slice none 0 0] 37)) hb1
    have bR := blk_below (blk_at (w.alloc (.cells #[.int .i64 tapes, .int .i64 start, .slice AA accs.length ca, .slice AN rows.length cn] 66)) (.cells #[.slice none 0 0, .slice none 0 0, .slice none 0 0] 37) (w.heap.size + 1) (by simp)) hb1
    have hB1 := below_step hB0 hb1
    obtain ⟨AF, cF, hvF⟩ := Kd.R_slice rF
    subst hvF
    rw [hfl] at rF
    obtain ⟨hq1, hq2, hCF⟩ := Kd.R_reads' rF
    clear hq1
    rw [hfl] at hCF
    obtain ⟨adF, rfl, kF⟩ := int_at hCF start (by omega)
    rw [hfS.out] at kF
    have m1 : w1.cell? ⟨w.heap.size, 1, none⟩ = some (.int .i64 (start : Int)) := (blk_cell bM 1).trans rfl
    have hst1 : ((start : Int) < (fr.length : Int)) = True := eq_true (by omega)
    have hst2 : ((start : Int) < (rows.length : Int)) = True := eq_true (by omega)
    have h0s : (0 ≤ (start : Int)) = True := eq_true (by omega)
    have b := blk_alloc (blk_alloc (blk_alloc bR (.cells #[.bool false] 4)) (.cells #[.int .i64 (-1), .int .i64 (-1)] 78)) (.cells #[.string ⟨#[]⟩, .string ⟨#[]⟩] 79)
    have d0 : (((w1.alloc (.cells #[.bool false] 4)).alloc (.cells #[.int .i64 (-1), .int .i64 (-1)] 78)).alloc (.cells #[.string ⟨#[]⟩, .string ⟨#[]⟩] 79)).cell? ⟨w.heap.size + 1, 0, none⟩ = some (.slice none 0 0) := (blk_cell b 0).trans rfl
    have d1 : (((w1.alloc (.cells #[.bool false] 4)).alloc (.cells #[.int .i64 (-1), .int .i64 (-1)] 78)).alloc (.cells #[.string ⟨#[]⟩, .string ⟨#[]⟩] 79)).cell? ⟨w.heap.size + 1, 1, none⟩ = some (.slice none 0 0) := (blk_cell b 1).trans rfl
    have d2 : (((w1.alloc (.cells #[.bool false] 4)).alloc (.cells #[.int .i64 (-1), .int .i64 (-1)] 78)).alloc (.cells #[.string ⟨#[]⟩, .string ⟨#[]⟩] 79)).cell? ⟨w.heap.size + 1, 2, none⟩ = some (.slice none 0 0) := (blk_cell b 2).trans rfl
    have f0 : (((w1.alloc (.cells #[.bool false] 4)).alloc (.cells #[.int .i64 (-1), .int .i64 (-1)] 78)).alloc (.cells #[.string ⟨#[]⟩, .string ⟨#[]⟩] 79)).frozen? ⟨w.heap.size + 1, 0, none⟩ = false := blk_frozen b 0
    have f1 : (((w1.alloc (.cells #[.bool false] 4)).alloc (.cells #[.int .i64 (-1), .int .i64 (-1)] 78)).alloc (.cells #[.string ⟨#[]⟩, .string ⟨#[]⟩] 79)).frozen? ⟨w.heap.size + 1, 1, none⟩ = false := blk_frozen b 1
    have f2 : (((w1.alloc (.cells #[.bool false] 4)).alloc (.cells #[.int .i64 (-1), .int .i64 (-1)] 78)).alloc (.cells #[.string ⟨#[]⟩, .string ⟨#[]⟩] 79)).frozen? ⟨w.heap.size + 1, 2, none⟩ = false := blk_frozen b 2)))
 clear d0 d1 d2 f0 f1 f2 kF m1
 have hlow := Below.size hB1
 have rA := Kd.R_lower (R_one Kd.bool 4 w1 w1.heap.size (Nat.le_refl _) (y := false) (cs := [.bool false]) (okp := fun _ => False) (ok := fun _ => True) rfl (fun _ h => h.elim) trivial) hlow
 have rN := Kd.R_lower (R_one Pair 78 (w1.alloc (.cells #[.bool false] 4)) w1.heap.size (by simp) (y := [-1, -1]) (cs := [.int .i64 (-1), .int .i64 (-1)]) (okp := fun _ => False) (ok := fun _ => True) (Kd.arr_of_cells rfl) (fun _ h => h.elim) trivial) hlow
 have rO := Kd.R_lower (R_one Text2 79 ((w1.alloc (.cells #[.bool false] 4)).alloc (.cells #[.int .i64 (-1), .int .i64 (-1)] 78)) w1.heap.size (by simp <;> omega) (y := [⟨#[]⟩, ⟨#[]⟩]) (cs := [.string ⟨#[]⟩, .string ⟨#[]⟩]) (okp := fun _ => False) (ok := fun _ => True) (Kd.arr_of_cells rfl) (fun _ h => h.elim) trivial) hlow
 replace rA := Kd.R_below (Kd.R_below rA (below_alloc (Below.refl _ _) (.cells #[.int .i64 (-1), .int .i64 (-1)] 78))) (below_alloc (Below.refl _ _) (.cells #[.string ⟨#[]⟩, .string ⟨#[]⟩] 79))
 replace rN := Kd.R_below rN (below_alloc (Below.refl _ _) (.cells #[.string ⟨#[]⟩, .string ⟨#[]⟩] 79))
 have hB := below_alloc (below_alloc (below_alloc hB1 (.cells #[.bool false] 4)) (.cells #[.int .i64 (-1), .int .i64 (-1)] 78)) (.cells #[.string ⟨#[]⟩, .string ⟨#[]⟩] 79)
 have z1 : (w1.alloc (.cells #[.bool false] 4)).heap.size = w1.heap.size + 1 := by simp
 have z2 : ((w1.alloc (.cells #[.bool false] 4)).alloc (.cells #[.int .i64 (-1), .int .i64 (-1)] 78)).heap.size = w1.heap.size + 1 + 1 := by simp
 rw [z1] at rN
 rw [z2] at rO
 clear z1 z2
 generalize (((w1.alloc (.cells #[.bool false] 4)).alloc (.cells #[.int .i64 (-1), .int .i64 (-1)] 78)).alloc (.cells #[.string ⟨#[]⟩, .string ⟨#[]⟩] 79)) = W3 at *
 have b1 := blk_put b 0 (.slice (some ⟨w1.heap.size, 0, none⟩) 1 1) rfl
 have b2 := blk_put b1 1 (.slice (some ⟨w1.heap.size + 1, 0, none⟩) 1 1) rfl
 have b3 := blk_put b2 2 (.slice (some ⟨w1.heap.size + 1 + 1, 0, none⟩) 1 1) rfl
 refine bodyPost_ret (results_ct rfl _ _ (w.heap.size + 1) 37 #[.slice (some ⟨w1.heap.size, 0, none⟩) 1 1, .slice (some ⟨w1.heap.size + 1, 0, none⟩) 1 1, .slice (some ⟨w1.heap.size + 1 + 1, 0, none⟩) 1 1] (0, 0) _ rfl b3 Tryd.underlying37 rfl (by kernel_rfl)) rfl ⟨_, _, _, rfl, ?_, ?_, ?_, ?_⟩
 ·exact Kd.R_set (Kd.R_set (Kd.R_set rA b (by decide) 0 _) b1 (by decide) 1 _) b2 (by decide) 2 _
 ·exact Kd.R_set (Kd.R_set (Kd.R_set rN b (by decide) 0 _) b1 (by decide) 1 _) b2 (by decide) 2 _
 ·exact Kd.R_set (Kd.R_set (Kd.R_set rO b (by decide) 0 _) b1 (by decide) 1 _) b2 (by decide) 2 _
 ·exact ((hB.setCell (by simp) _).setCell (by simp) _).setCell (by simp) _
end Go.Proofs.YtnjdkhnepmmfgaaDoor.Sb
namespace Go.Proofs.YtnjdkhnepmmfgaaDoor.PC1
open Go.RowKit Go.Proofs.YtnjdkhnepmmfgaaDoorW.PrintWords Go.Proofs.YtnjdkhnepmmfgaaDoorW.PrintLast Go.Proofs.YtnjdkhnepmmfgaaDoorW.PrintMore PB1
attribute [local go_sem] max2_int min2_int max_two min_two max_three min_three max_four min_four   -- for this text's walks alone
set_option linter.unusedVariables false
set_option linter.unusedSimpArgs false
def errW : Option Int → Value
 | none => .nilIface
 | some c => .iface 0 (.int .i64 c)
theorem errW_none : errW none = .nilIface := rfl
theorem errW_some (c : Int) : errW (some c) = .iface 0 (.int .i64 c) := rfl
theorem info3 : (Tryd.prog.info? 3).map (fun i => (i.zero, i.size, i.bytes)) = some (some (.int .i64 0), 1, 8) := by kernel_rfl
theorem info4 : (Tryd.prog.info? 4).map (fun i => (i.zero, i.size, i.bytes)) = some (some (.bool false), 1, 1) := by kernel_rfl
def rd_L1 (xs : List (List Int)) (i : Int) : (List Int) := xs.getD i.toNat ([] : List Int)
theorem at_L1 {w : World} {A : Option Addr} {n : Nat} {xs : List (List Int)} (h : Kd.C (Kd.slice 3 (Kd.int .i64)) w A n xs) (i : Int) (h0 : 0 ≤ i) (h1 : i < n) : ∃ ad A0 c0, A = some ad ∧ w.cell? (ad.add i.toNat) = some (.slice A0 (rd_L1 xs i).length c0) ∧ (rd_L1 xs i).length ≤ c0 ∧ (Kd.int .i64).C w A0 (rd_L1 xs i).length (rd_L1 xs i) := by
 obtain ⟨ad, c, e, _, hK, hc0⟩ := Kd.C_get h ([] : List Int) i h0 h1
 have hc : ∀ j u, c[j]? = some u → w.cell? (ad.add (i.toNat * 1 + j)) = some u := hc0
 obtain ⟨A0, c0, rfl, l0, g0⟩ := hK
 exact ⟨ad, A0, c0, e, by have hq := hc 0 _ rfl; rwa [Nat.mul_one, Nat.add_zero] at hq, l0, g0⟩
def rd_L3 (xs : List (List Int)) (i : Int) : (List Int) := xs.getD i.toNat ([] : List Int)
theorem at_L3 {w : World} {A : Option Addr} {n : Nat} {xs : List (List Int)} (h : Kd.C (Kd.slice 2 (Kd.int .i64)) w A n xs) (i : Int) (h0 : 0 ≤ i) (h1 : i < n) : ∃ ad A0 c0, A = some ad ∧ w.cell? (ad.add i.toNat) = some (.slice A0 (rd_L3 xs i).length c0) ∧ (rd_L3 xs i).length ≤ c0 ∧ (Kd.int .i64).C w A0 (rd_L3 xs i).length (rd_L3 xs i) := by
 obtain ⟨ad, c, e, _, hK, hc0⟩ := Kd.C_get h ([] : List Int) i h0 h1
 have hc : ∀ j u, c[j]? = some u → w.cell? (ad.add (i.toNat * 1 + j)) = some u := hc0
 obtain ⟨A0, c0, rfl, l0, g0⟩ := hK
 exact ⟨ad, A0, c0, e, by have hq := hc 0 _ rfl; rwa [Nat.mul_one, Nat.add_zero] at hq, l0, g0⟩
end Go.Proofs.YtnjdkhnepmmfgaaDoor.PC1
namespace Go.Proofs.YtnjdkhnepmmfgaaDoor.PC1
open Go.RowKit Go.Proofs.YtnjdkhnepmmfgaaDoorW.PrintWords Go.Proofs.YtnjdkhnepmmfgaaDoorW.PrintLast Go.Proofs.YtnjdkhnepmmfgaaDoorW.PrintMore PB1
attribute [local go_sem] max2_int min2_int max_two min_two max_three min_three max_four min_four   -- for this text's walks alone
set_option linter.unusedVariables false
set_option linter.unusedSimpArgs false
/-! ### impl_machine_far: function 85 -/
mutual
def impl_machine_far.l0 : Nat → List Int → List Bool → Int → Int → Int → Int → List Bool → List (List Int) → Option (List Int)
 | 0, _, _, _, _, _, _, _, _ => none
 | k + 1, x3, x16, x17, x18, x102000, x102001, x102002, x102003 => if x18 < x17 then (if 0 ≤ x18 then (if x18 < (x16.length : Int) then (if rdOf false x16 x18 = true then (impl_machine_far.l0 k x3 x16 x17 (wrap64 (x18 + 1)) x102000 x102001 x102002 x102003) else (if x18 < (x3.length : Int) then (impl_machine_far.l0 k (x3.set (x18 : Int).toNat (-1)) x16 x17 (wrap64 (x18 + 1)) x102000 x102001 x102002 x102003) else (none))) else (none)) else (none)) else (impl_machine_far.l1 k x3 1 x102000 x102001 x102002 x102003)
def impl_machine_far.l1 : Nat → List Int → Int → Int → Int → List Bool → List (List Int) → Option (List Int)
 | 0, _, _, _, _, _, _ => none
 | k + 1, x3, x6, x102000, x102001, x102002, x102003 => if x6 ≤ (x3.length : Int) then (impl_machine_far.l2 k x3 x6 x102003 (x102003.length : Int) 0 x102000 x102001 x102002 x102003) else (some x3)
def impl_machine_far.l2 : Nat → List Int → Int → List (List Int) → Int → Int → Int → Int → List Bool → List (List Int) → Option (List Int)
 | 0, _, _, _, _, _, _, _, _, _ => none
 | k + 1, x3, x6, x36, x37, x38, x102000, x102001, x102002, x102003 => if x38 < x37 then (if 0 ≤ x38 then (if x38 < (x36.length : Int) then (if x38 < (x3.length : Int) then (if (rd x3 x38) ≥ 0 then (impl_machine_far.l2 k x3 x6 x36 x37 (wrap64 (x38 + 1)) x102000 x102001 x102002 x102003) else (impl_machine_far.l3 k x3 x6 x38 x36 x37 x38 (rd_L1 x36 x38) ((rd_L1 x36 x38).length : Int) 0 x102000 x102001 x102002 x102003)) else (none)) else (none)) else (none)) else (impl_machine_far.l1 k x3 (wrap64 (x6 + 1)) x102000 x102001 x102002 x102003)
def impl_machine_far.l3 : Nat → List Int → Int → Int → List (List Int) → Int → Int → List Int → Int → Int → Int → Int → List Bool → List (List Int) → Option (List Int)
 | 0, _, _, _, _, _, _, _, _, _, _, _, _, _ => none
 | k + 1, x3, x6, x7, x36, x37, x38, x48, x49, x50, x102000, x102001, x102002, x102003 => if x50 < x49 then (if 0 ≤ x50 then (if x50 < (x48.length : Int) then (if 0 ≤ (rd x48 x50) then (if (rd x48 x50) < (x3.length : Int) then (if (rd x3 (rd x48 x50)) = (wrap64 (x6 - 1)) then (if 0 ≤ x7 then (if x7 < (x3.length : Int) then (impl_machine_far.l2 k (x3.set (x7 : Int).toNat x6) x6 x36 x37 (wrap64 (x38 + 1)) x102000 x102001 x102002 x102003) else (none)) else (none)) else (impl_machine_far.l3 k x3 x6 x7 x36 x37 x38 x48 x49 (wrap64 (x50 + 1)) x102000 x102001 x102002 x102003)) else (none)) else (none)) else (none)) else (none)) else (impl_machine_far.l2 k x3 x6 x36 x37 (wrap64 (x38 + 1)) x102000 x102001 x102002 x102003)
end
def impl_machine_far.f (k : Nat) (a0_0 : Int) (a0_1 : Int) (l0_2 : List Bool) (l0_3 : List (List Int)) : Option (List Int) := if 0 ≤ (l0_2.length : Int) then (if ((l0_2.length : Int) : Int).toNat ≤ 35184372088832 then (impl_machine_far.l0 k (List.replicate ((l0_2.length : Int) : Int).toNat 0) l0_2 (l0_2.length : Int) 0 a0_0 a0_1 l0_2 l0_3) else (none)) else (none)
theorem impl_machine_far.mono_l : ∀ k, (∀ y0 y1 y2 y3 y4 y5 y6 y7, LeO (impl_machine_far.l0 k y0 y1 y2 y3 y4 y5 y6 y7) (impl_machine_far.l0 (k + 1) y0 y1 y2 y3 y4 y5 y6 y7)) ∧ (∀ y0 y1 y2 y3 y4 y5, LeO (impl_machine_far.l1 k y0 y1 y2 y3 y4 y5) (impl_machine_far.l1 (k + 1) y0 y1 y2 y3 y4 y5)) ∧ (∀ y0 y1 y2 y3 y4 y5 y6 y7 y8, LeO (impl_machine_far.l2 k y0 y1 y2 y3 y4 y5 y6 y7 y8) (impl_machine_far.l2 (k + 1) y0 y1 y2 y3 y4 y5 y6 y7 y8)) ∧ (∀ y0 y1 y2 y3 y4 y5 y6 y7 y8 y9 y10 y11 y12, LeO (impl_machine_far.l3 k y0 y1 y2 y3 y4 y5 y6 y7 y8 y9 y10 y11 y12) (impl_machine_far.l3 (k + 1) y0 y1 y2 y3 y4 y5 y6 y7 y8 y9 y10 y11 y12))
 | 0 => ⟨fun _ _ _ _ _ _ _ _ r h => by simp [impl_machine_far.l0] at h, fun _ _ _ _ _ _ r h => by simp [impl_machine_far.l1] at h, fun _ _ _ _ _ _ _ _ _ r h => by simp [impl_machine_far.l2] at h, fun _ _ _ _ _ _ _ _ _ _ _ _ _ r h => by simp [impl_machine_far.l3] at h⟩
 | k + 1 => by
  obtain ⟨ih0, ih1, ih2, ih3⟩ := impl_machine_far.mono_l k
  refine ⟨?_, ?_, ?_, ?_⟩
  ·intro y0 y1 y2 y3 y4 y5 y6 y7
   unfold impl_machine_far.l0
   repeat' first
   | (with_reducible exact ih0 _ _ _ _ _ _ _ _)
   | (with_reducible exact ih1 _ _ _ _ _ _)
   | (with_reducible exact ih2 _ _ _ _ _ _ _ _ _)
   | (with_reducible exact ih3 _ _ _ _ _ _ _ _ _ _ _ _ _)
   | (with_reducible exact LeO.refl _)
   | (with_reducible exact LeO.none _)
   | (with_reducible refine LeO.ite ?_ ?_)
   | (with_reducible refine LeO.bind ?_ (fun _ => ?_))
   | exact ih0 _ _ _ _ _ _ _ _
   | exact ih1 _ _ _ _ _ _
   | exact ih2 _ _ _ _ _ _ _ _ _
   | exact ih3 _ _ _ _ _ _ _ _ _ _ _ _ _
   | exact LeO.none _
   | refine LeO.ite ?_ ?_
   | refine LeO.bind ?_ (fun _ => ?_)
  ·intro y0 y1 y2 y3 y4 y5
   unfold impl_machine_far.l1
   repeat' first
   | (with_reducible exact ih0 _ _ _ _ _ _ _ _)
   | (with_reducible exact ih1 _ _ _ _ _ _)
   | (with_reducible exact ih2 _ _ _ _ _ _ _ _ _)
   | (with_reducible exact ih3 _ _ _ _ _ _ _ _ _ _ _ _ _)
   | (with_reducible exact LeO.refl _)
   | (with_reducible exact LeO.none _)
   | (with_reducible refine LeO.ite ?_ ?_)
   | (with_reducible refine LeO.bind ?_ (fun _ => ?_))
   | exact ih0 _ _ _ _ _ _ _ _
   | exact ih1 _ _ _ _ _ _
   | exact ih2 _ _ _ _ _ _ _ _ _
   | exact ih3 _ _ _ _ _ _ _ _ _ _ _ _ _
   | exact LeO.none _
   | refine LeO.ite ?_ ?_
   | refine LeO.bind ?_ (fun _ => ?_)
  ·intro y0 y1 y2 y3 y4 y5 y6 y7 y8
   unfold impl_machine_far.l2
   repeat' first
   | (with_reducible exact ih0 _ _ _ _ _ _ _ _)
   | (with_reducible exact ih1 _ _ _ _ _ _)
   | (with_reducible exact ih2 _ _ _ _ _ _ _ _ _)
   | (with_reducible exact ih3 _ _ _ _ _ _ _ _ _ _ _ _ _)
   | (with_reducible exact LeO.refl _)
   | (with_reducible exact LeO.none _)
   | (with_reducible refine LeO.ite ?_ ?_)
   | (with_reducible refine LeO.bind ?_ (fun _ => ?_))
   | exact ih0 _ _ _ _ _ _ _ _
   | exact ih1 _ _ _ _ _ _
   | exact ih2 _ _ _ _ _ _ _ _ _
   | exact ih3 _ _ _ _ _ _ _ _ _ _ _ _ _
   | exact LeO.none _
   | refine LeO.ite ?_ ?_
   | refine LeO.bind ?_ (fun _ => ?_)
  ·intro y0 y1 y2 y3 y4 y5 y6 y7 y8 y9 y10 y11 y12
   unfold impl_machine_far.l3
   repeat' first
   | (with_reducible exact ih0 _ _ _ _ _ _ _ _)
   | (with_reducible exact ih1 _ _ _ _ _ _)
   | (with_reducible exact ih2 _ _ _ _ _ _ _ _ _)
   | (with_reducible exact ih3 _ _ _ _ _ _ _ _ _ _ _ _ _)
   | (with_reducible exact LeO.refl _)
   | (with_reducible exact LeO.none _)
   | (with_reducible refine LeO.ite ?_ ?_)
   | (with_reducible refine LeO.bind ?_ (fun _ => ?_))
   | exact ih0 _ _ _ _ _ _ _ _
   | exact ih1 _ _ _ _ _ _
   | exact ih2 _ _ _ _ _ _ _ _ _
   | exact ih3 _ _ _ _ _ _ _ _ _ _ _ _ _
   | exact LeO.none _
   | refine LeO.ite ?_ ?_
   | refine LeO.bind ?_ (fun _ => ?_)
theorem impl_machine_far.mono : ∀ a0 a1 a2 a3 k, LeO (impl_machine_far.f k a0 a1 a2 a3) (impl_machine_far.f (k + 1) a0 a1 a2 a3) := by
 intro a0 a1 a2 a3 k
 obtain ⟨ih0, ih1, ih2, ih3⟩ := impl_machine_far.mono_l k
 unfold impl_machine_far.f
 repeat' first
   | (with_reducible exact ih0 _ _ _ _ _ _ _ _)
   | (with_reducible exact ih1 _ _ _ _ _ _)
   | (with_reducible exact ih2 _ _ _ _ _ _ _ _ _)
   | (with_reducible exact ih3 _ _ _ _ _ _ _ _ _ _ _ _ _)
   | (with_reducible exact LeO.refl _)
   | (with_reducible exact LeO.none _)
   | (with_reducible refine LeO.ite ?_ ?_)
   | (with_reducible refine LeO.bind ?_ (fun _ => ?_))
   | exact ih0 _ _ _ _ _ _ _ _
   | exact ih1 _ _ _ _ _ _
   | exact ih2 _ _ _ _ _ _ _ _ _
   | exact ih3 _ _ _ _ _ _ _ _ _ _ _ _ _
   | exact LeO.none _
   | refine LeO.ite ?_ ?_
   | refine LeO.bind ?_ (fun _ => ?_)
set_option maxHeartbeats 8000000 in
set_option maxRecDepth 100000 in
theorem impl_machine_far.calls (k : Nat) (a0_0 : Int) (a0_1 : Int) (A0_2 : Option Addr) (c0_2 : Nat) (l0_2 : List Bool) (A0_3 : Option Addr) (c0_3 : Nat) (l0_3 : List (List Int)) (r : List Int) (w : World) (hr0_2 : Kd.C Kd.bool w A0_2 l0_2.length l0_2) (hc0_2 : l0_2.length ≤ c0_2) (hr0_3 : Kd.C (Kd.slice 3 (Kd.int .i64)) w A0_3 l0_3.length l0_3) (hc0_3 : l0_3.length ≤ c0_3) (h : impl_machine_far.f k a0_0 a0_1 l0_2 l0_3 = some r) :
  Calls Tryd.prog 85 #[.agg #[.int .i64 a0_0, .int .i64 a0_1, .slice A0_2 l0_2.length c0_2, .slice A0_3 l0_3.length c0_3]] w fun e w' => ∃ v0_ : Value, e = .returned (v0_) ∧ Kd.R (Kd.int .i64) 3 w' w.heap.size (fun _ => True) v0_ r ∧ Below w.heap.size w w' := by
 have hu66 := Tryd.underlying66
 have HR0_2 := Aside0.mk hr0_2
 have HC0_2 := Aside0.mk hc0_2
 clear hr0_2 hc0_2
 have HR0_3 := Aside0.mk hr0_3
 have HC0_3 := Aside0.mk hc0_3
 clear hr0_3 hc0_3
 have HB := Aside0.mk (Below.refl w.heap.size w)
 have H : (if 0 ≤ (l0_2.length : Int) then (if ((l0_2.length : Int) : Int).toNat ≤ 35184372088832 then (impl_machine_far.l0 k (List.replicate ((l0_2.length : Int) : Int).toNat 0) l0_2 (l0_2.length : Int) 0 a0_0 a0_1 l0_2 l0_3) else (none)) else (none)) = some r := h
 clear h
 by_cases c2 : 0 ≤ (l0_2.length : Int)
 ·rw [if_pos c2] at H
  have c2b0 := eq_true c2
  have c2b1 : decide (0 ≤ (l0_2.length : Int)) = true := decide_eq_true c2
  clear c2
  by_cases c3 : ((l0_2.length : Int) : Int).toNat ≤ 35184372088832
  ·rw [if_pos c3] at H
   have c3b0 := eq_true c3
   have c3b1 : decide (((l0_2.length : Int) : Int).toNat ≤ 35184372088832) = true := decide_eq_true c3
   clear c3
   obtain ⟨y102, hy102⟩ : ∃ y_ : List Int, y_ = (List.replicate ((l0_2.length : Int) : Int).toNat 0) := ⟨_, rfl⟩
   replace H : (impl_machine_far.l0 k y102 l0_2 (l0_2.length : Int) 0 a0_0 a0_1 l0_2 l0_3) = some r := by first | (rw [hy102]; with_reducible exact H) | (have H2_ := (Option.bind_some _ _).symm.trans H; rw [hy102]; with_reducible exact H2_) | (have H2_ := (Option.bind_some _ _).symm.trans H; with_reducible exact H2_) | with_reducible exact H | (rw [hy102]; exact H) | exact H
   have Ny102 := Aside0.mk hy102
   clear hy102
   have H' := Aside0.mk H
   clear H
   go_enter Tryd.func85, Tryd.ntmps85
   go_wp2_with (first | ((with_reducible refine gate_dst (N := 1) rfl ?_); refine box_event ?hg (N := 1) ?hd (cs := #[.int .i64 a0_0, .int .i64 a0_1, .slice A0_2 l0_2.length c0_2, .slice A0_3 l0_3.length c0_3]) (t := 66) ?hr ?_; (case hd => rfl); (case hg => rfl); (case hr => first | (go_simp; done) | (go_simp; rfl)); intro gb101 hg w4 hbox hb; have n0_ := Aside0.mk (below_step (by repeat (first | (with_reducible first | exact HB.out | apply below_alloc | apply pw_below_drewN | apply below_drew1) | exact HB.out)) hb); have n1_ := Aside0.mk (hbox); have n2_ := Aside0.mk ((by rw [hg]; exact (below_size (by repeat (first | (with_reducible first | exact HB.out | apply below_alloc | apply pw_below_drewN | apply below_drew1) | exact HB.out))) : w.heap.size ≤ gb101)); have n3_ := Aside0.mk ((by rw [hg]; exact (below_size (by repeat (first | (with_reducible first | exact HB.out | apply below_alloc | apply pw_below_drewN | apply below_drew1) | exact HB.out))) : w.heap.size ≤ gb101)); clear HB; have HB := n0_; have BK101 := n1_; have GW101 := n2_; have GE101 := n3_; clear n0_ n1_ n2_ n3_; clear hb hbox hg; have hcz5_0 : w4.cell? ⟨gb101, 0, none⟩ = some (.int .i64 a0_0) := (blk_cell BK101.out 0).trans rfl; have hcz5_1 : w4.cell? ⟨gb101, 1, none⟩ = some (.int .i64 a0_1) := (blk_cell BK101.out 1).trans rfl; have hcz5_2 : w4.cell? ⟨gb101, 2, none⟩ = some (.slice A0_2 l0_2.length c0_2) := (blk_cell BK101.out 2).trans rfl; have hcz5_3 : w4.cell? ⟨gb101, 3, none⟩ = some (.slice A0_3 l0_3.length c0_3) := (blk_cell BK101.out 3).trans rfl; have hfz5_0 := blk_frozen BK101.out 0; have hfz5_1 := blk_frozen BK101.out 1; have hfz5_2 := blk_frozen BK101.out 2; have hfz5_3 := blk_frozen BK101.out 3) | ((with_reducible refine gate_dst (N := 14) rfl ?_); refine Kd.R_make (Kd.int .i64) _ 3 rfl (N := 14) rfl 87 _ _ rfl (l0_2.length : Int) rfl rfl Tryd.underlying87 (.int .i64 0) 8 info3 rfl (by decide) (by omega) 0 (ok := fun _ => True) (okp := fun _ => True) rfl (fun _ hk => hk) trivial (of_decide_eq_true (by first | (with_reducible assumption) | assumption)) (Nat.le_trans (Nat.mul_le_mul_right _ (of_decide_eq_true (by first | (with_reducible assumption) | assumption) : (l0_2.length : Int).toNat ≤ 35184372088832)) (by omega)) (Below.refl _ _) (Nat.le_refl _) ?_; intro v103 w6 ho7 hb hg_ hnew_; clear hg_ hnew_; (first | rw [← Ny102.out] at ho7 | (simp only [Int.reduceToNat] at ho7; rw [← Ny102.out] at ho7)); have n0_ := Aside0.mk (Kd.R_lower ho7 (below_size (by repeat (first | (with_reducible first | exact HB.out | apply below_alloc | apply pw_below_drewN | apply below_drew1 | refine below_set ?_ GE101.out) | exact HB.out)))); have n1_ := Aside0.mk (blk_below (g := gb101) (o := .cells #[.int .i64 a0_0, .int .i64 a0_1, .slice A0_2 l0_2.length c0_2, .slice A0_3 l0_3.length c0_3] 66 (0, 0)) (by (with_reducible repeat (first | refine blk_drewN ?_ _ | refine blk_drew ?_ | refine blk_alloc ?_ _)); exact BK101.out) hb); have n2_ := Aside0.mk (below_step (by repeat (first | (with_reducible first | exact HB.out | apply below_alloc | apply pw_below_drewN | apply below_drew1 | refine below_set ?_ GE101.out) | exact HB.out)) hb); clear BK101; clear HB; have HO104 := n0_; have BK101 := n1_; have HB := n2_; clear n0_ n1_ n2_; clear hb ho7; have hcz8_0 : w6.cell? ⟨gb101, 0, none⟩ = some (.int .i64 a0_0) := (blk_cell BK101.out 0).trans rfl; have hcz8_1 : w6.cell? ⟨gb101, 1, none⟩ = some (.int .i64 a0_1) := (blk_cell BK101.out 1).trans rfl; have hcz8_2 : w6.cell? ⟨gb101, 2, none⟩ = some (.slice A0_2 l0_2.length c0_2) := (blk_cell BK101.out 2).trans rfl; have hcz8_3 : w6.cell? ⟨gb101, 3, none⟩ = some (.slice A0_3 l0_3.length c0_3) := (blk_cell BK101.out 3).trans rfl; have hfz8_0 := blk_frozen BK101.out 0; have hfz8_1 := blk_frozen BK101.out 1; have hfz8_2 := blk_frozen BK101.out 2; have hfz8_3 := blk_frozen BK101.out 3))
   go_loopg [18] k (fun kq v18 w' => ∃ (x3_1 : List Int) (x18_1 : Int), v18 = .int .i64 x18_1 ∧ Aside0 (impl_machine_far.l0 kq x3_1 l0_2 (l0_2.length : Int) x18_1 a0_0 a0_1 l0_2 l0_3 = some r) ∧ Aside0 (kq ≤ k) ∧ Aside0 (Kd.R (Kd.int .i64) 3 w' w.heap.size (fun _ => True) v103 x3_1) ∧ Aside0 (w'.heap[gb101]? = some (.cells #[.int .i64 a0_0, .int .i64 a0_1, (.slice A0_2 l0_2.length c0_2), (.slice A0_3 l0_3.length c0_3)] 66 (0, 0))) ∧ Aside0 (Below w.heap.size w w'))
   case atStart => exact ⟨(y102), (0), (by first | rfl | (simp; done) | (simp [*]; done) | (simp [wrap64]; done)), H', ⟨Nat.le_refl _⟩, ⟨by (with_reducible repeat (first | apply Kd.R_alloc | apply Kd.R_drewN | apply Kd.R_drew)); exact HO104.out⟩, ⟨by (with_reducible repeat (first | refine blk_drewN ?_ _ | refine blk_drew ?_ | refine blk_alloc ?_ _)); exact BK101.out⟩, ⟨by repeat (first | (with_reducible first | exact HB.out | apply below_alloc | apply pw_below_drewN | apply below_drew1 | refine below_set ?_ GE101.out) | exact HB.out)⟩⟩
   case round =>
    clear H'
    try clear c2
    try clear c2b0
    try clear c2b1
    try clear p2
    try clear c3
    try clear c3b0
    try clear c3b1
    try clear p6
    try clear c8
    try clear hcz5_0
    try clear hcz5_1
    try clear hcz5_2
    try clear hcz5_3
    try clear hcz8_0
    try clear hcz8_1
    try clear hcz8_2
    try clear hcz8_3
    try clear hfz5_0
    try clear hfz5_1
    try clear hfz5_2
    try clear hfz5_3
    try clear hfz8_0
    try clear hfz8_1
    try clear hfz8_2
    try clear hfz8_3
    obtain ⟨x3_1, x18_1, rfl, HA, HK1, HO_3, BK101, HB⟩ := hrel
    cases gk with
    | zero => exact absurd HA.out (by simp [impl_machine_far.l0])
    | succ k1 =>
     have H := HA.out
     clear HA
     simp only [impl_machine_far.l0] at H
     by_cases c9 : x18_1 < (l0_2.length : Int)
     ·rw [if_pos c9] at H
      have c9b0 : decide (x18_1 < (l0_2.length : Int)) = true := decide_eq_true c9
      clear c9
      by_cases c10 : 0 ≤ x18_1
      ·rw [if_pos c10] at H
       have c10b0 : decide (0 ≤ x18_1) = true := decide_eq_true c10
       clear c10
       by_cases c11 : x18_1 < (l0_2.length : Int)
       ·rw [if_pos c11] at H
        have c11b0 : decide (x18_1 < (l0_2.length : Int)) = true := decide_eq_true c11
        clear c11
        obtain ⟨bq12, hbq12⟩ : ∃ b_ : Bool, b_ = (rdOf false l0_2 x18_1) := ⟨_, rfl⟩
        replace H : (if bq12 = true then (impl_machine_far.l0 k1 x3_1 l0_2 (l0_2.length : Int) (wrap64 (x18_1 + 1)) a0_0 a0_1 l0_2 l0_3) else (if x18_1 < (x3_1.length : Int) then (impl_machine_far.l0 k1 (x3_1.set (x18_1 : Int).toNat (-1)) l0_2 (l0_2.length : Int) (wrap64 (x18_1 + 1)) a0_0 a0_1 l0_2 l0_3) else (none))) = some r := by rw [← hbq12] at H; exact H
        have Nbq12 := Aside0.mk hbq12
        clear hbq12
        by_cases c13 : bq12 = true
        ·subst c13
         have H1 : (impl_machine_far.l0 k1 x3_1 l0_2 (l0_2.length : Int) (wrap64 (x18_1 + 1)) a0_0 a0_1 l0_2 l0_3) = some r := by rw [if_pos rfl] at H; exact H
         clear H
         have H := H1
         clear H1
         have H' := Aside0.mk H
         clear H
         have p105 : 0 ≤ (x18_1 : Int) := of_decide_eq_true (by first | (with_reducible assumption) | assumption)
         have q105 : x18_1 < (l0_2.length : Int) := of_decide_eq_true (by first | (with_reducible assumption) | assumption)
         obtain ⟨ad105, e105, hx105_0⟩ := Kd.at_bool HR0_2.out x18_1 p105 q105
         (try rw [← Nbq12.out] at hx105_0)
         cases e105
         replace hx105_0 := (HB.out.cell (World.block_lt_of_cell? w _ hx105_0)).trans hx105_0
         replace p105 := eq_true p105
         replace q105 := eq_true q105
         go_wp2
         go_roundg k1
         case measure => have := HK1.out; omega
         case rel => exact ⟨(x3_1), (wrap64 (x18_1 + 1)), (by first | rfl | (simp; done) | (simp [*]; done) | (simp [wrap64]; done)), H', ⟨by have := HK1.out; omega⟩, ⟨by (with_reducible repeat (first | apply Kd.R_alloc | apply Kd.R_drewN | apply Kd.R_drew)); exact HO_3.out⟩, ⟨by (with_reducible repeat (first | refine blk_drewN ?_ _ | refine blk_drew ?_ | refine blk_alloc ?_ _)); exact BK101.out⟩, ⟨by repeat (first | (with_reducible first | exact HB.out | apply below_alloc | apply pw_below_drewN | apply below_drew1 | refine below_set ?_ GE101.out) | exact HB.out)⟩⟩
        ·replace c13 := Bool.eq_false_iff.mpr c13
         subst c13
         have H1 : (if x18_1 < (x3_1.length : Int) then (impl_machine_far.l0 k1 (x3_1.set (x18_1 : Int).toNat (-1)) l0_2 (l0_2.length : Int) (wrap64 (x18_1 + 1)) a0_0 a0_1 l0_2 l0_3) else (none)) = some r := by rw [if_neg (show ¬ (false = true) by decide)] at H; exact H
         clear H
         have H := H1
         clear H1
         by_cases c14 : x18_1 < (x3_1.length : Int)
         ·rw [if_pos c14] at H
          have c14b0 : decide (x18_1 < (x3_1.length : Int)) = true := decide_eq_true c14
          clear c14
          obtain ⟨y106, hy106⟩ : ∃ y_ : List Int, y_ = (x3_1.set (x18_1 : Int).toNat (-1)) := ⟨_, rfl⟩
          replace H : (impl_machine_far.l0 k1 y106 l0_2 (l0_2.length : Int) (wrap64 (x18_1 + 1)) a0_0 a0_1 l0_2 l0_3) = some r := by first | (rw [hy106]; with_reducible exact H) | (have H2_ := (Option.bind_some _ _).symm.trans H; rw [hy106]; with_reducible exact H2_) | (have H2_ := (Option.bind_some _ _).symm.trans H; with_reducible exact H2_) | with_reducible exact H | (rw [hy106]; exact H) | exact H
          have Ny106 := Aside0.mk hy106
          clear hy106
          have H' := Aside0.mk H
          clear H
          have p105 : 0 ≤ (x18_1 : Int) := of_decide_eq_true (by first | (with_reducible assumption) | assumption)
          have q105 : x18_1 < (l0_2.length : Int) := of_decide_eq_true (by first | (with_reducible assumption) | assumption)
          obtain ⟨ad105, e105, hx105_0⟩ := Kd.at_bool HR0_2.out x18_1 p105 q105
          (try rw [← Nbq12.out] at hx105_0)
          cases e105
          replace hx105_0 := (HB.out.cell (World.block_lt_of_cell? w _ hx105_0)).trans hx105_0
          replace p105 := eq_true p105
          replace q105 := eq_true q105
          have p15 : 0 ≤ (x18_1 : Int) := of_decide_eq_true (by first | (with_reducible assumption) | assumption)
          have q15 : (x18_1 : Int) < ((x3_1.length : Int) : Int) := of_decide_eq_true (by first | (with_reducible assumption) | assumption)
          obtain ⟨go15, co15, eo15, gb15, gl15, cl15, HG15⟩ := Kd.R_form HO_3.out (by omega)
          (first | cases eo15 | (injection eo15 with ea_ en_ ec_; (first | subst ea_ | (injection ea_ with ea_; subst ea_)); subst ec_; clear en_))
          have GB15 := Aside0.mk gb15
          have GG15 := Aside0.mk HG15
          clear gb15 gl15 HG15
          obtain ⟨hx15_0, hf15_0⟩ := Kd.R_celln 0 HO_3.out (x18_1 : Int) p15 q15
          replace p15 := eq_true p15
          replace q15 := eq_true q15
          have HP16 := Kd.R_putg HO_3.out (x18_1 : Int) (-1)
          go_wp2_with (first | ((with_reducible refine gate_store (t := 3) (p := 27) rfl ?_); refine store_event (t := 3) (p := 27) (v := ?vo_w17) (w1 := (wr.setCell ⟨go15, (x18_1 : Int).toNat, none⟩ (.int .i64 (-1)))) ?hg ?ho ?hn ?hr ?_; (case ho => rfl); (case hg => rfl); (case hn => rfl); (case hr => first | (go_simp; done) | (go_simp; rfl)); intro w17 hw; have hg : wr.grownBy w17 (some go15) := (by rw [hw]; exact HP16.2); have hp_ : Kd.R (Kd.int .i64) 3 w17 w.heap.size (fun _ => True) (.slice (some ⟨go15, 0, none⟩) x3_1.length co15) y106 := (by rw [hw, Ny106.out]; exact HP16.1); clear HP16; have n0_ := Aside0.mk (hp_); have n1_ := Aside0.mk (blk_grown (g := gb101) (o := .cells #[.int .i64 a0_0, .int .i64 a0_1, .slice (some ad105) l0_2.length c0_2, .slice A0_3 l0_3.length c0_3] 66 (0, 0)) (by (with_reducible repeat (first | refine blk_drewN ?_ _ | refine blk_drew ?_ | refine blk_alloc ?_ _)); exact BK101.out) hg (Kd.R_ne HO_3.out BK101.out (by decide))); have n2_ := Aside0.mk ((by rw [hw]; exact below_set (HB.out) GB15.out : Below w.heap.size w w17)); clear HO_3; clear BK101; clear HB; have HO_3 := n0_; have BK101 := n1_; have HB := n2_; clear n0_ n1_ n2_; clear hg hw hp_))
          go_roundg k1
          case measure => have := HK1.out; omega
          case rel => exact ⟨(y106), (wrap64 (x18_1 + 1)), (by first | rfl | (simp; done) | (simp [*]; done) | (simp [wrap64]; done)), H', ⟨by have := HK1.out; omega⟩, ⟨by (with_reducible repeat (first | apply Kd.R_alloc | apply Kd.R_drewN | apply Kd.R_drew)); exact HO_3.out⟩, ⟨by (with_reducible repeat (first | refine blk_drewN ?_ _ | refine blk_drew ?_ | refine blk_alloc ?_ _)); exact BK101.out⟩, ⟨by repeat (first | (with_reducible first | exact HB.out | apply below_alloc | apply pw_below_drewN | apply below_drew1 | refine below_set ?_ GE101.out) | exact HB.out)⟩⟩
         ·rw [if_neg c14] at H
          exact absurd H (by simp)
       ·rw [if_neg c11] at H
        exact absurd H (by simp)
      ·rw [if_neg c10] at H
       exact absurd H (by simp)
     ·rw [if_neg c9] at H
      have c9b0 : decide (x18_1 < (l0_2.length : Int)) = false := decide_eq_false c9
      clear c9
      have H' := Aside0.mk H
      clear H
      go_wp2
      go_loopg [6] k1 (fun kq v6 w' => ∃ (x3_2 : List Int) (x6_2 : Int), v6 = .int .i64 x6_2 ∧ Aside0 (impl_machine_far.l1 kq x3_2 x6_2 a0_0 a0_1 l0_2 l0_3 = some r) ∧ Aside0 (kq ≤ k1) ∧ Aside0 (Kd.R (Kd.int .i64) 3 w' w.heap.size (fun _ => True) v103 x3_2) ∧ Aside0 (w'.heap[gb101]? = some (.cells #[.int .i64 a0_0, .int .i64 a0_1, (.slice A0_2 l0_2.length c0_2), (.slice A0_3 l0_3.length c0_3)] 66 (0, 0))) ∧ Aside0 (Below w.heap.size w w'))
      case atStart => exact ⟨(x3_1), (1), (by first | rfl | (simp; done) | (simp [*]; done) | (simp [wrap64]; done)), H', ⟨Nat.le_refl _⟩, ⟨by (with_reducible repeat (first | apply Kd.R_alloc | apply Kd.R_drewN | apply Kd.R_drew)); exact HO_3.out⟩, ⟨by (with_reducible repeat (first | refine blk_drewN ?_ _ | refine blk_drew ?_ | refine blk_alloc ?_ _)); exact BK101.out⟩, ⟨by repeat (first | (with_reducible first | exact HB.out | apply below_alloc | apply pw_below_drewN | apply below_drew1 | refine below_set ?_ GE101.out) | exact HB.out)⟩⟩
      case round =>
       clear H'
       try clear c1
       try clear p1
       try clear q1
       try clear hx1
       try clear hf1
       try clear c2
       try clear c2b0
       try clear c2b1
       try clear p2
       try clear c3
       try clear c3b0
       try clear c3b1
       try clear p6
       try clear c8
       try clear c9
       try clear c9b0
       try clear c10
       try clear c10b0
       try clear p10
       try clear q10
       try clear hx10
       try clear c11
       try clear c11b0
       try clear q12
       try clear c13
       try clear c14
       try clear c14b0
       try clear p15
       try clear q15
       try clear hx15
       try clear hf15
       try clear hcz5_0
       try clear hcz5_1
       try clear hcz5_2
       try clear hcz5_3
       try clear hcz8_0
       try clear hcz8_1
       try clear hcz8_2
       try clear hcz8_3
       try clear hfz5_0
       try clear hfz5_1
       try clear hfz5_2
       try clear hfz5_3
       try clear hfz8_0
       try clear hfz8_1
       try clear hfz8_2
       try clear hfz8_3
       try clear hx105_0
       try clear hx15_0
       try clear p105
       try clear p15
       try clear p2
       try clear p6
       try clear q105
       try clear q15
       obtain ⟨x3_2, x6_2, rfl, HA, HK2, HO_3, BK101, HB⟩ := hrel
       cases gk with
       | zero => exact absurd HA.out (by simp [impl_machine_far.l1])
       | succ k2 =>
        have H := HA.out
        clear HA
        simp only [impl_machine_far.l1] at H
        by_cases c18 : x6_2 ≤ (x3_2.length : Int)
        ·rw [if_pos c18] at H
         have c18b0 : decide (x6_2 ≤ (x3_2.length : Int)) = true := decide_eq_true c18
         clear c18
         have H' := Aside0.mk H
         clear H
         obtain ⟨Ao19, co19, eo19⟩ := Kd.R_slice HO_3.out
         subst eo19
         have hcz20_0 : wr.cell? ⟨gb101, 0, none⟩ = some (.int .i64 a0_0) := (blk_cell BK101.out 0).trans rfl
         have hcz20_1 : wr.cell? ⟨gb101, 1, none⟩ = some (.int .i64 a0_1) := (blk_cell BK101.out 1).trans rfl
         have hcz20_2 : wr.cell? ⟨gb101, 2, none⟩ = some (.slice A0_2 l0_2.length c0_2) := (blk_cell BK101.out 2).trans rfl
         have hcz20_3 : wr.cell? ⟨gb101, 3, none⟩ = some (.slice A0_3 l0_3.length c0_3) := (blk_cell BK101.out 3).trans rfl
         have hfz20_0 := blk_frozen BK101.out 0
         have hfz20_1 := blk_frozen BK101.out 1
         have hfz20_2 := blk_frozen BK101.out 2
         have hfz20_3 := blk_frozen BK101.out 3
         go_wp2
         go_loopg [38] k2 (fun kq v38 w' => ∃ (x3_3 : List Int) (x38_3 : Int), v38 = .int .i64 x38_3 ∧ Aside0 (impl_machine_far.l2 kq x3_3 x6_2 l0_3 (l0_3.length : Int) x38_3 a0_0 a0_1 l0_2 l0_3 = some r) ∧ Aside0 (kq ≤ k2) ∧ Aside0 (Kd.R (Kd.int .i64) 3 w' w.heap.size (fun _ => True) (.slice Ao19 x3_2.length co19) x3_3) ∧ Aside0 (w'.heap[gb101]? = some (.cells #[.int .i64 a0_0, .int .i64 a0_1, (.slice A0_2 l0_2.length c0_2), (.slice A0_3 l0_3.length c0_3)] 66 (0, 0))) ∧ Aside0 (Below w.heap.size w w'))
         case atStart => exact ⟨(x3_2), (0), (by first | rfl | (simp; done) | (simp [*]; done) | (simp [wrap64]; done)), H', ⟨Nat.le_refl _⟩, ⟨by (with_reducible repeat (first | apply Kd.R_alloc | apply Kd.R_drewN | apply Kd.R_drew)); exact HO_3.out⟩, ⟨by (with_reducible repeat (first | refine blk_drewN ?_ _ | refine blk_drew ?_ | refine blk_alloc ?_ _)); exact BK101.out⟩, ⟨by repeat (first | (with_reducible first | exact HB.out | apply below_alloc | apply pw_below_drewN | apply below_drew1 | refine below_set ?_ GE101.out) | exact HB.out)⟩⟩
         case round =>
          clear H'
          try clear c1
          try clear p1
          try clear q1
          try clear hx1
          try clear hf1
          try clear c2
          try clear c2b0
          try clear c2b1
          try clear p2
          try clear c3
          try clear c3b0
          try clear c3b1
          try clear p6
          try clear c8
          try clear c9
          try clear c9b0
          try clear c10
          try clear c10b0
          try clear p10
          try clear q10
          try clear hx10
          try clear c11
          try clear c11b0
          try clear q12
          try clear c13
          try clear c14
          try clear c14b0
          try clear p15
          try clear q15
          try clear hx15
          try clear hf15
          try clear c18
          try clear c18b0
          try clear hcz20_0
          try clear hcz20_1
          try clear hcz20_2
          try clear hcz20_3
          try clear hcz5_0
          try clear hcz5_1
          try clear hcz5_2
          try clear hcz5_3
          try clear hcz8_0
          try clear hcz8_1
          try clear hcz8_2
          try clear hcz8_3
          try clear hfz20_0
          try clear hfz20_1
          try clear hfz20_2
          try clear hfz20_3
          try clear hfz5_0
          try clear hfz5_1
          try clear hfz5_2
          try clear hfz5_3
          try clear hfz8_0
          try clear hfz8_1
          try clear hfz8_2
          try clear hfz8_3
          try clear hx105_0
          try clear hx15_0
          try clear p1
          try clear p10
          try clear p105
          try clear p15
          try clear p2
          try clear p6
          try clear q1
          try clear q10
          try clear q105
          try clear q12
          try clear q15
          obtain ⟨x3_3, x38_3, rfl, HA, HK3, HO_3, BK101, HB⟩ := hrel
          have hl3_3 := (Kd.R_reads' HO_3.out).1
          rw [hl3_3] at HO_3
          (try simp only [hl3_3])
          (try simp only [hl3_3] at BK101)
          cases gk with
          | zero => exact absurd HA.out (by simp [impl_machine_far.l2])
          | succ k3 =>
           have H := HA.out
           clear HA
           simp only [impl_machine_far.l2] at H
           by_cases c21 : x38_3 < (l0_3.length : Int)
           ·rw [if_pos c21] at H
            have c21b0 : decide (x38_3 < (l0_3.length : Int)) = true := decide_eq_true c21
            clear c21
            by_cases c22 : 0 ≤ x38_3
            ·rw [if_pos c22] at H
             have c22b0 : decide (0 ≤ x38_3) = true := decide_eq_true c22
             clear c22
             by_cases c23 : x38_3 < (l0_3.length : Int)
             ·rw [if_pos c23] at H
              have c23b0 : decide (x38_3 < (l0_3.length : Int)) = true := decide_eq_true c23
              clear c23
              by_cases c24 : x38_3 < (x3_3.length : Int)
              ·rw [if_pos c24] at H
               have c24b0 : decide (x38_3 < (x3_3.length : Int)) = true := decide_eq_true c24
               clear c24
               by_cases c25 : (rd x3_3 x38_3) ≥ 0
               ·rw [if_pos c25] at H
                have c25b0 : decide (0 ≤ (rd x3_3 x38_3)) = true := decide_eq_true c25
                clear c25
                have H' := Aside0.mk H
                clear H
                have p107 : 0 ≤ (x38_3 : Int) := of_decide_eq_true (by first | (with_reducible assumption) | assumption)
                have q107 : x38_3 < (l0_3.length : Int) := of_decide_eq_true (by first | (with_reducible assumption) | assumption)
                obtain ⟨ad107, A107_0, c107_0, e107, hx107_0, hl107_0, hi107_0⟩ := at_L1 HR0_3.out x38_3 p107 q107
                cases e107
                replace hx107_0 := (HB.out.cell (World.block_lt_of_cell? w _ hx107_0)).trans hx107_0
                have HR107_0 := Aside0.mk hi107_0
                have HC107_0 := Aside0.mk hl107_0
                clear hi107_0 hl107_0
                replace p107 := eq_true p107
                replace q107 := eq_true q107
                have p108 : 0 ≤ (x38_3 : Int) := of_decide_eq_true (by first | (with_reducible assumption) | assumption)
                have q108 : x38_3 < (x3_3.length : Int) := of_decide_eq_true (by first | (with_reducible assumption) | assumption)
                obtain ⟨ad108, e108, hx108_0⟩ := Kd.at_int (Kd.R_reads' HO_3.out).2.2 x38_3 p108 q108
                cases e108
                replace p108 := eq_true p108
                replace q108 := eq_true q108
                go_wp2
                (try simp only [← hl3_3])
                go_roundg k3
                case measure => have := HK1.out; have := HK2.out; have := HK3.out; omega
                case rel => exact ⟨(x3_3), (wrap64 (x38_3 + 1)), (by first | rfl | (simp; done) | (simp [*]; done) | (simp [wrap64]; done)), H', ⟨by have := HK1.out; have := HK2.out; have := HK3.out; omega⟩, ⟨by (try simp only [hl3_3]); (with_reducible repeat (first | apply Kd.R_alloc | apply Kd.R_drewN | apply Kd.R_drew)); exact HO_3.out⟩, ⟨by (try simp only [hl3_3]); (with_reducible repeat (first | refine blk_drewN ?_ _ | refine blk_drew ?_ | refine blk_alloc ?_ _)); exact BK101.out⟩, ⟨by repeat (first | (with_reducible first | exact HB.out | apply below_alloc | apply pw_below_drewN | apply below_drew1 | refine below_set ?_ GE101.out) | exact HB.out)⟩⟩
               ·rw [if_neg c25] at H
                have c25b0 : decide (0 ≤ (rd x3_3 x38_3)) = false := decide_eq_false c25
                clear c25
                have H' := Aside0.mk H
                clear H
                have p107 : 0 ≤ (x38_3 : Int) := of_decide_eq_true (by first | (with_reducible assumption) | assumption)
                have q107 : x38_3 < (l0_3.length : Int) := of_decide_eq_true (by first | (with_reducible assumption) | assumption)
                obtain ⟨ad107, A107_0, c107_0, e107, hx107_0, hl107_0, hi107_0⟩ := at_L1 HR0_3.out x38_3 p107 q107
                cases e107
                replace hx107_0 := (HB.out.cell (World.block_lt_of_cell? w _ hx107_0)).trans hx107_0
                have HR107_0 := Aside0.mk hi107_0
                have HC107_0 := Aside0.mk hl107_0
                clear hi107_0 hl107_0
                replace p107 := eq_true p107
                replace q107 := eq_true q107
                have p108 : 0 ≤ (x38_3 : Int) := of_decide_eq_true (by first | (with_reducible assumption) | assumption)
                have q108 : x38_3 < (x3_3.length : Int) := of_decide_eq_true (by first | (with_reducible assumption) | assumption)
                obtain ⟨ad108, e108, hx108_0⟩ := Kd.at_int (Kd.R_reads' HO_3.out).2.2 x38_3 p108 q108
                cases e108
                replace p108 := eq_true p108
                replace q108 := eq_true q108
                go_wp2
                go_loopg [50] k3 (fun kq v50 w' => ∃ (x3_4 : List Int) (x50_4 : Int), v50 = .int .i64 x50_4 ∧ Aside0 (impl_machine_far.l3 kq x3_4 x6_2 x38_3 l0_3 (l0_3.length : Int) x38_3 (rd_L1 l0_3 x38_3) ((rd_L1 l0_3 x38_3).length : Int) x50_4 a0_0 a0_1 l0_2 l0_3 = some r) ∧ Aside0 (kq ≤ k3) ∧ Aside0 (Kd.R (Kd.int .i64) 3 w' w.heap.size (fun _ => True) (.slice (some ad108) x3_3.length co19) x3_4) ∧ Aside0 (w'.heap[gb101]? = some (.cells #[.int .i64 a0_0, .int .i64 a0_1, (.slice A0_2 l0_2.length c0_2), (.slice (some ad107) l0_3.length c0_3)] 66 (0, 0))) ∧ Aside0 (Below w.heap.size w w'))
                case atStart => exact ⟨(x3_3), (0), (by first | rfl | (simp; done) | (simp [*]; done) | (simp [wrap64]; done)), H', ⟨Nat.le_refl _⟩, ⟨by (try simp only [hl3_3]); (with_reducible repeat (first | apply Kd.R_alloc | apply Kd.R_drewN | apply Kd.R_drew)); exact HO_3.out⟩, ⟨by (try simp only [hl3_3]); (with_reducible repeat (first | refine blk_drewN ?_ _ | refine blk_drew ?_ | refine blk_alloc ?_ _)); exact BK101.out⟩, ⟨by repeat (first | (with_reducible first | exact HB.out | apply below_alloc | apply pw_below_drewN | apply below_drew1 | refine below_set ?_ GE101.out) | exact HB.out)⟩⟩
                case round =>
                 clear H'
                 try clear c1
                 try clear p1
                 try clear q1
                 try clear hx1
                 try clear hf1
                 try clear c2
                 try clear c2b0
                 try clear c2b1
                 try clear p2
                 try clear c3
                 try clear c3b0
                 try clear c3b1
                 try clear p6
                 try clear c8
                 try clear c9
                 try clear c9b0
                 try clear c10
                 try clear c10b0
                 try clear p10
                 try clear q10
                 try clear hx10
                 try clear c11
                 try clear c11b0
                 try clear q12
                 try clear c13
                 try clear c14
                 try clear c14b0
                 try clear p15
                 try clear q15
                 try clear hx15
                 try clear hf15
                 try clear c18
                 try clear c18b0
                 try clear c21
                 try clear c21b0
                 try clear c22
                 try clear c22b0
                 try clear c23
                 try clear c23b0
                 try clear c24
                 try clear c24b0
                 try clear c25
                 try clear c25b0
                 try clear hcz20_0
                 try clear hcz20_1
                 try clear hcz20_2
                 try clear hcz20_3
                 try clear hcz5_0
                 try clear hcz5_1
                 try clear hcz5_2
                 try clear hcz5_3
                 try clear hcz8_0
                 try clear hcz8_1
                 try clear hcz8_2
                 try clear hcz8_3
                 try clear hfz20_0
                 try clear hfz20_1
                 try clear hfz20_2
                 try clear hfz20_3
                 try clear hfz5_0
                 try clear hfz5_1
                 try clear hfz5_2
                 try clear hfz5_3
                 try clear hfz8_0
                 try clear hfz8_1
                 try clear hfz8_2
                 try clear hfz8_3
                 try clear hx105_0
                 try clear hx107_0
                 try clear hx108_0
                 try clear hx15_0
                 try clear p1
                 try clear p10
                 try clear p105
                 try clear p107
                 try clear p108
                 try clear p15
                 try clear p2
                 try clear p6
                 try clear q1
                 try clear q10
                 try clear q105
                 try clear q107
                 try clear q108
                 try clear q12
                 try clear q15
                 obtain ⟨x3_4, x50_4, rfl, HA, HK4, HO_3, BK101, HB⟩ := hrel
                 have hl3_4 := (Kd.R_reads' HO_3.out).1
                 rw [hl3_4] at HO_3
                 (try simp only [hl3_4])
                 (try simp only [hl3_4] at BK101)
                 cases gk with
                 | zero => exact absurd HA.out (by simp [impl_machine_far.l3])
                 | succ k4 =>
                  have H := HA.out
                  clear HA
                  simp only [impl_machine_far.l3] at H
                  by_cases c26 : x50_4 < ((rd_L1 l0_3 x38_3).length : Int)
                  ·rw [if_pos c26] at H
                   have c26b0 : decide (x50_4 < ((rd_L1 l0_3 x38_3).length : Int)) = true := decide_eq_true c26
                   clear c26
                   by_cases c27 : 0 ≤ x50_4
                   ·rw [if_pos c27] at H
                    have c27b0 : decide (0 ≤ x50_4) = true := decide_eq_true c27
                    clear c27
                    by_cases c28 : x50_4 < ((rd_L1 l0_3 x38_3).length : Int)
                    ·rw [if_pos c28] at H
                     have c28b0 : decide (x50_4 < ((rd_L1 l0_3 x38_3).length : Int)) = true := decide_eq_true c28
                     clear c28
                     by_cases c29 : 0 ≤ (rd (rd_L1 l0_3 x38_3) x50_4)
                     ·rw [if_pos c29] at H
                      have c29b0 : decide (0 ≤ (rd (rd_L1 l0_3 x38_3) x50_4)) = true := decide_eq_true c29
                      clear c29
                      by_cases c30 : (rd (rd_L1 l0_3 x38_3) x50_4) < (x3_4.length : Int)
                      ·rw [if_pos c30] at H
                       have c30b0 : decide ((rd (rd_L1 l0_3 x38_3) x50_4) < (x3_4.length : Int)) = true := decide_eq_true c30
                       clear c30
                       by_cases c31 : (rd x3_4 (rd (rd_L1 l0_3 x38_3) x50_4)) = (wrap64 (x6_2 - 1))
                       ·rw [if_pos c31] at H
                        have c31b0 : ((rd x3_4 (rd (rd_L1 l0_3 x38_3) x50_4)) == (wrap64 (x6_2 - 1))) = true := beq_iff_eq.mpr c31
                        have c31b1 : ((rd x3_4 (rd (rd_L1 l0_3 x38_3) x50_4)) != (wrap64 (x6_2 - 1))) = false := bne_eq_false_iff_eq.mpr c31
                        clear c31
                        by_cases c32 : 0 ≤ x38_3
                        ·rw [if_pos c32] at H
                         have c32b0 : decide (0 ≤ x38_3) = true := decide_eq_true c32
                         clear c32
                         by_cases c33 : x38_3 < (x3_4.length : Int)
                         ·rw [if_pos c33] at H
                          have c33b0 : decide (x38_3 < (x3_4.length : Int)) = true := decide_eq_true c33
                          clear c33
                          obtain ⟨y111, hy111⟩ : ∃ y_ : List Int, y_ = (x3_4.set (x38_3 : Int).toNat x6_2) := ⟨_, rfl⟩
                          replace H : (impl_machine_far.l2 k4 y111 x6_2 l0_3 (l0_3.length : Int) (wrap64 (x38_3 + 1)) a0_0 a0_1 l0_2 l0_3) = some r := by first | (rw [hy111]; with_reducible exact H) | (have H2_ := (Option.bind_some _ _).symm.trans H; rw [hy111]; with_reducible exact H2_) | (have H2_ := (Option.bind_some _ _).symm.trans H; with_reducible exact H2_) | with_reducible exact H | (rw [hy111]; exact H) | exact H
                          have Ny111 := Aside0.mk hy111
                          clear hy111
                          have H' := Aside0.mk H
                          clear H
                          have p109 : 0 ≤ (x50_4 : Int) := of_decide_eq_true (by first | (with_reducible assumption) | assumption)
                          have q109 : x50_4 < ((rd_L1 l0_3 x38_3).length : Int) := of_decide_eq_true (by first | (with_reducible assumption) | assumption)
                          obtain ⟨ad109, e109, hx109_0⟩ := Kd.at_int HR107_0.out x50_4 p109 q109
                          cases e109
                          replace hx109_0 := (HB.out.cell (World.block_lt_of_cell? w _ hx109_0)).trans hx109_0
                          replace p109 := eq_true p109
                          replace q109 := eq_true q109
                          have p110 : 0 ≤ ((rd (rd_L1 l0_3 x38_3) x50_4) : Int) := of_decide_eq_true (by first | (with_reducible assumption) | assumption)
                          have q110 : (rd (rd_L1 l0_3 x38_3) x50_4) < (x3_4.length : Int) := of_decide_eq_true (by first | (with_reducible assumption) | assumption)
                          obtain ⟨ad110, e110, hx110_0⟩ := Kd.at_int (Kd.R_reads' HO_3.out).2.2 (rd (rd_L1 l0_3 x38_3) x50_4) p110 q110
                          obtain rfl : ad108 = ad110 := (by injection e110)
                          replace p110 := eq_true p110
                          replace q110 := eq_true q110
                          have p34 : 0 ≤ (x38_3 : Int) := of_decide_eq_true (by first | (with_reducible assumption) | assumption)
                          have q34 : (x38_3 : Int) < ((x3_4.length : Int) : Int) := of_decide_eq_true (by first | (with_reducible assumption) | assumption)
                          obtain ⟨go34, co34, eo34, gb34, gl34, cl34, HG34⟩ := Kd.R_form HO_3.out (by omega)
                          (first | cases eo34 | (injection eo34 with ea_ en_ ec_; (first | subst ea_ | (injection ea_ with ea_; subst ea_)); subst ec_; clear en_))
                          have GB34 := Aside0.mk gb34
                          have GG34 := Aside0.mk HG34
                          clear gb34 gl34 HG34
                          (first | simp only [add_plain] at hx108_0 | skip)
                          (first | simp only [add_plain] at hx110_0 | skip)
                          obtain ⟨hx34_0, hf34_0⟩ := Kd.R_celln 0 HO_3.out (x38_3 : Int) p34 q34
                          replace p34 := eq_true p34
                          replace q34 := eq_true q34
                          have HP35 := Kd.R_putg HO_3.out (x38_3 : Int) x6_2
                          go_wp2_with (first | ((with_reducible refine gate_store (t := 3) (p := 64) rfl ?_); refine store_event (t := 3) (p := 64) (v := ?vo_w36) (w1 := (wr.setCell ⟨go34, (x38_3 : Int).toNat, none⟩ (.int .i64 x6_2))) ?hg ?ho ?hn ?hr ?_; (case ho => rfl); (case hg => rfl); (case hn => rfl); (case hr => first | (go_simp; done) | (go_simp; rfl)); intro w36 hw; have hg : wr.grownBy w36 (some go34) := (by rw [hw]; exact HP35.2); have hp_ : Kd.R (Kd.int .i64) 3 w36 w.heap.size (fun _ => True) (.slice (some ⟨go34, 0, none⟩) x3_4.length co19) y111 := (by rw [hw, Ny111.out]; exact HP35.1); clear HP35; have n0_ := Aside0.mk (hp_); have n1_ := Aside0.mk (blk_grown (g := gb101) (o := .cells #[.int .i64 a0_0, .int .i64 a0_1, .slice A0_2 l0_2.length c0_2, .slice (some ad107) l0_3.length c0_3] 66 (0, 0)) (by (with_reducible repeat (first | refine blk_drewN ?_ _ | refine blk_drew ?_ | refine blk_alloc ?_ _)); exact BK101.out) hg (Kd.R_ne HO_3.out BK101.out (by decide))); have n2_ := Aside0.mk ((by rw [hw]; exact below_set (HB.out) GB34.out : Below w.heap.size w w36)); clear HO_3; clear BK101; clear HB; have HO_3 := n0_; have BK101 := n1_; have HB := n2_; clear n0_ n1_ n2_; clear hg hw hp_))
                          (try simp only [← hl3_3, ← hl3_4])
                          go_roundg k4
                          case measure => have := HK1.out; have := HK2.out; have := HK3.out; have := HK4.out; omega
                          case rel => exact ⟨(y111), (wrap64 (x38_3 + 1)), (by first | rfl | (simp; done) | (simp [*]; done) | (simp [wrap64]; done)), H', ⟨by have := HK1.out; have := HK2.out; have := HK3.out; have := HK4.out; omega⟩, ⟨by (try simp only [hl3_3]); (try simp only [hl3_4]); (with_reducible repeat (first | apply Kd.R_alloc | apply Kd.R_drewN | apply Kd.R_drew)); exact HO_3.out⟩, ⟨by (try simp only [hl3_3]); (try simp only [hl3_4]); (with_reducible repeat (first | refine blk_drewN ?_ _ | refine blk_drew ?_ | refine blk_alloc ?_ _)); exact BK101.out⟩, ⟨by repeat (first | (with_reducible first | exact HB.out | apply below_alloc | apply pw_below_drewN | apply below_drew1 | refine below_set ?_ GE101.out) | exact HB.out)⟩⟩
                         ·rw [if_neg c33] at H
                          exact absurd H (by simp)
                        ·rw [if_neg c32] at H
                         exact absurd H (by simp)
                       ·rw [if_neg c31] at H
                        have c31b0 : ((rd x3_4 (rd (rd_L1 l0_3 x38_3) x50_4)) == (wrap64 (x6_2 - 1))) = false := beq_eq_false_iff_ne.mpr c31
                        have c31b1 : ((rd x3_4 (rd (rd_L1 l0_3 x38_3) x50_4)) != (wrap64 (x6_2 - 1))) = true := bne_iff_ne.mpr c31
                        have H' := Aside0.mk H
                        clear H
                        have p109 : 0 ≤ (x50_4 : Int) := of_decide_eq_true (by first | (with_reducible assumption) | assumption)
                        have q109 : x50_4 < ((rd_L1 l0_3 x38_3).length : Int) := of_decide_eq_true (by first | (with_reducible assumption) | assumption)
                        obtain ⟨ad109, e109, hx109_0⟩ := Kd.at_int HR107_0.out x50_4 p109 q109
                        cases e109
                        replace hx109_0 := (HB.out.cell (World.block_lt_of_cell? w _ hx109_0)).trans hx109_0
                        replace p109 := eq_true p109
                        replace q109 := eq_true q109
                        have p110 : 0 ≤ ((rd (rd_L1 l0_3 x38_3) x50_4) : Int) := of_decide_eq_true (by first | (with_reducible assumption) | assumption)
                        have q110 : (rd (rd_L1 l0_3 x38_3) x50_4) < (x3_4.length : Int) := of_decide_eq_true (by first | (with_reducible assumption) | assumption)
                        obtain ⟨ad110, e110, hx110_0⟩ := Kd.at_int (Kd.R_reads' HO_3.out).2.2 (rd (rd_L1 l0_3 x38_3) x50_4) p110 q110
                        obtain rfl : ad108 = ad110 := (by injection e110)
                        replace p110 := eq_true p110
                        replace q110 := eq_true q110
                        go_wp2
                        (try simp only [← hl3_4])
                        go_roundg k4
                        case measure => have := HK1.out; have := HK2.out; have := HK3.out; have := HK4.out; omega
                        case rel => exact ⟨(x3_4), (wrap64 (x50_4 + 1)), (by first | rfl | (simp; done) | (simp [*]; done) | (simp [wrap64]; done)), H', ⟨by have := HK1.out; have := HK2.out; have := HK3.out; have := HK4.out; omega⟩, ⟨by (try simp only [hl3_3]); (try simp only [hl3_4]); (with_reducible repeat (first | apply Kd.R_alloc | apply Kd.R_drewN | apply Kd.R_drew)); exact HO_3.out⟩, ⟨by (try simp only [hl3_3]); (try simp only [hl3_4]); (with_reducible repeat (first | refine blk_drewN ?_ _ | refine blk_drew ?_ | refine blk_alloc ?_ _)); exact BK101.out⟩, ⟨by repeat (first | (with_reducible first | exact HB.out | apply below_alloc | apply pw_below_drewN | apply below_drew1 | refine below_set ?_ GE101.out) | exact HB.out)⟩⟩
                      ·rw [if_neg c30] at H
                       exact absurd H (by simp)
                     ·rw [if_neg c29] at H
                      exact absurd H (by simp)
                    ·rw [if_neg c28] at H
                     exact absurd H (by simp)
                   ·rw [if_neg c27] at H
                    exact absurd H (by simp)
                  ·rw [if_neg c26] at H
                   have c26b0 : decide (x50_4 < ((rd_L1 l0_3 x38_3).length : Int)) = false := decide_eq_false c26
                   clear c26
                   have H' := Aside0.mk H
                   clear H
                   go_wp2
                   (try simp only [← hl3_3, ← hl3_4])
                   go_roundg k4
                   case measure => have := HK1.out; have := HK2.out; have := HK3.out; have := HK4.out; omega
                   case rel => exact ⟨(x3_4), (wrap64 (x38_3 + 1)), (by first | rfl | (simp; done) | (simp [*]; done) | (simp [wrap64]; done)), H', ⟨by have := HK1.out; have := HK2.out; have := HK3.out; have := HK4.out; omega⟩, ⟨by (try simp only [hl3_3]); (try simp only [hl3_4]); (with_reducible repeat (first | apply Kd.R_alloc | apply Kd.R_drewN | apply Kd.R_drew)); exact HO_3.out⟩, ⟨by (try simp only [hl3_3]); (try simp only [hl3_4]); (with_reducible repeat (first | refine blk_drewN ?_ _ | refine blk_drew ?_ | refine blk_alloc ?_ _)); exact BK101.out⟩, ⟨by repeat (first | (with_reducible first | exact HB.out | apply below_alloc | apply pw_below_drewN | apply below_drew1 | refine below_set ?_ GE101.out) | exact HB.out)⟩⟩
              ·rw [if_neg c24] at H
               exact absurd H (by simp)
             ·rw [if_neg c23] at H
              exact absurd H (by simp)
            ·rw [if_neg c22] at H
             exact absurd H (by simp)
           ·rw [if_neg c21] at H
            have c21b0 : decide (x38_3 < (l0_3.length : Int)) = false := decide_eq_false c21
            clear c21
            have H' := Aside0.mk H
            clear H
            go_wp2
            (try simp only [← hl3_3])
            go_roundg k3
            case measure => have := HK1.out; have := HK2.out; have := HK3.out; omega
            case rel => exact ⟨(x3_3), (wrap64 (x6_2 + 1)), (by first | rfl | (simp; done) | (simp [*]; done) | (simp [wrap64]; done)), H', ⟨by have := HK1.out; have := HK2.out; have := HK3.out; omega⟩, ⟨by (try simp only [hl3_3]); (with_reducible repeat (first | apply Kd.R_alloc | apply Kd.R_drewN | apply Kd.R_drew)); exact HO_3.out⟩, ⟨by (try simp only [hl3_3]); (with_reducible repeat (first | refine blk_drewN ?_ _ | refine blk_drew ?_ | refine blk_alloc ?_ _)); exact BK101.out⟩, ⟨by repeat (first | (with_reducible first | exact HB.out | apply below_alloc | apply pw_below_drewN | apply below_drew1 | refine below_set ?_ GE101.out) | exact HB.out)⟩⟩
        ·rw [if_neg c18] at H
         have c18b0 : decide (x6_2 ≤ (x3_2.length : Int)) = false := decide_eq_false c18
         clear c18
         obtain rfl := Option.some.inj H
         simp only [Option.some.injEq, Prod.mk.injEq] at H
         obtain ⟨rfl⟩ := H
         obtain ⟨Ao37, co37, eo37⟩ := Kd.R_slice HO_3.out
         subst eo37
         go_wp2
         go_ret
         exact ⟨_, by first | rfl | (simp [errW_none, errW_some] <;> rfl) | (simp [*, errW_none, errW_some] <;> rfl), by (with_reducible repeat (first | apply Kd.R_alloc | apply Kd.R_drewN | apply Kd.R_drew)); exact HO_3.out, by repeat (first | (with_reducible first | exact HB.out | apply below_alloc | apply pw_below_drewN | apply below_drew1 | refine below_set ?_ GE101.out) | exact HB.out)⟩
  ·rw [if_neg c3] at H
   exact absurd H (by simp)
 ·rw [if_neg c2] at H
  exact absurd H (by simp)
/-! ### impl_columnOf: function 86 -/
def impl_columnOf.l0 : Nat → List Int → Int → Int → Option (Int)
 | 0, _, _, _ => none
 | k + 1, x0, x3, x4 => if x4 ≥ 0 then (if 0 ≤ x4 then (if x4 < (x0.length : Int) then (impl_columnOf.l0 k x0 (wrap64 ((wrap64 (3 * x3)) + (rd x0 x4))) (wrap64 (x4 - 1))) else (none)) else (none)) else (some x3)
def impl_columnOf.f (k : Nat) (l0 : List Int) : Option (Int) := impl_columnOf.l0 k l0 0 (wrap64 ((l0.length : Int) - 1))
theorem impl_columnOf.mono_l : ∀ k, (∀ y0 y1 y2, LeO (impl_columnOf.l0 k y0 y1 y2) (impl_columnOf.l0 (k + 1) y0 y1 y2))
 | 0 => fun _ _ _ r h => by simp [impl_columnOf.l0] at h
 | k + 1 => by
  have ih0 := impl_columnOf.mono_l k
  ·intro y0 y1 y2
   unfold impl_columnOf.l0
   repeat' first
   | (with_reducible exact ih0 _ _ _)
   | (with_reducible exact LeO.refl _)
   | (with_reducible exact LeO.none _)
   | (with_reducible refine LeO.ite ?_ ?_)
   | (with_reducible refine LeO.bind ?_ (fun _ => ?_))
   | exact ih0 _ _ _
   | exact LeO.none _
   | refine LeO.ite ?_ ?_
   | refine LeO.bind ?_ (fun _ => ?_)
theorem impl_columnOf.mono : ∀ a0 k, LeO (impl_columnOf.f k a0) (impl_columnOf.f (k + 1) a0) := by
 intro a0 k
 have ih0 := impl_columnOf.mono_l k
 unfold impl_columnOf.f
 repeat' first
   | (with_reducible exact ih0 _ _ _)
   | (with_reducible exact LeO.refl _)
   | (with_reducible exact LeO.none _)
   | (with_reducible refine LeO.ite ?_ ?_)
   | (with_reducible refine LeO.bind ?_ (fun _ => ?_))
   | exact ih0 _ _ _
   | exact LeO.none _
   | refine LeO.ite ?_ ?_
   | refine LeO.bind ?_ (fun _ => ?_)
set_option maxHeartbeats 8000000 in
set_option maxRecDepth 100000 in
theorem impl_columnOf.calls (k : Nat) (A0 : Option Addr) (c0 : Nat) (l0 : List Int) (r : Int) (w : World) (hr0 : Kd.C (Kd.int .i64) w A0 l0.length l0) (hc0 : l0.length ≤ c0) (h : impl_columnOf.f k l0 = some r) :
  Calls Tryd.prog 86 #[.slice A0 l0.length c0] w fun e w' => e = .returned (.int .i64 r) ∧ Drawn0 w w' := by
 have HR0 := Aside0.mk hr0
 have HC0 := Aside0.mk hc0
 clear hr0 hc0
 have H : (impl_columnOf.l0 k l0 0 (wrap64 ((l0.length : Int) - 1))) = some r := h
 clear h
 have H' := Aside0.mk H
 clear H
 go_enter Tryd.func86, Tryd.ntmps86
 go_wp2
 go_loopg [3, 4] k (fun kq v3 v4 w' => ∃ (x3_1 : Int) (x4_1 : Int), v3 = .int .i64 x3_1 ∧ v4 = .int .i64 x4_1 ∧ Aside0 (impl_columnOf.l0 kq l0 x3_1 x4_1 = some r) ∧ Aside0 (kq ≤ k) ∧ Drawn0 w w')
 case atStart => exact ⟨(0), (wrap64 ((l0.length : Int) - 1)), (by first | rfl | (simp; done) | (simp [*]; done) | (simp [wrap64]; done)), (by first | rfl | (simp; done) | (simp [*]; done) | (simp [wrap64]; done)), H', ⟨Nat.le_refl _⟩, by repeat (first | exact Drawn0.refl _ | apply Drawn0.step)⟩
 case round =>
  clear H'
  obtain ⟨x3_1, x4_1, rfl, rfl, HA, HK1, ⟨m1, rfl⟩⟩ := hrel
  cases gk with
  | zero => exact absurd HA.out (by simp [impl_columnOf.l0])
  | succ k1 =>
   have H := HA.out
   clear HA
   simp only [impl_columnOf.l0] at H
   by_cases c2 : x4_1 ≥ 0
   ·rw [if_pos c2] at H
    have c2b0 : decide (0 ≤ x4_1) = true := decide_eq_true c2
    clear c2
    by_cases c3 : 0 ≤ x4_1
    ·rw [if_pos c3] at H
     have c3b0 : decide (0 ≤ x4_1) = true := decide_eq_true c3
     clear c3
     by_cases c4 : x4_1 < (l0.length : Int)
     ·rw [if_pos c4] at H
      have c4b0 : decide (x4_1 < (l0.length : Int)) = true := decide_eq_true c4
      clear c4
      have H' := Aside0.mk H
      clear H
      have p112 : 0 ≤ (x4_1 : Int) := of_decide_eq_true (by first | (with_reducible assumption) | assumption)
      have q112 : x4_1 < (l0.length : Int) := of_decide_eq_true (by first | (with_reducible assumption) | assumption)
      obtain ⟨ad112, e112, hx112_0⟩ := Kd.at_int HR0.out x4_1 p112 q112
      cases e112
      replace p112 := eq_true p112
      replace q112 := eq_true q112
      go_wp2
      go_roundg k1
      case measure => have := HK1.out; omega
      case rel => exact ⟨(wrap64 ((wrap64 (3 * x3_1)) + (rd l0 x4_1))), (wrap64 (x4_1 - 1)), (by first | rfl | (simp; done) | (simp [*]; done) | (simp [wrap64]; done)), (by first | rfl | (simp; done) | (simp [*]; done) | (simp [wrap64]; done)), H', ⟨by have := HK1.out; omega⟩, by repeat (first | exact Drawn0.refl _ | apply Drawn0.step)⟩
     ·rw [if_neg c4] at H
      exact absurd H (by simp)
    ·rw [if_neg c3] at H
     exact absurd H (by simp)
   ·rw [if_neg c2] at H
    have c2b0 : decide (0 ≤ x4_1) = false := decide_eq_false c2
    clear c2
    obtain rfl := Option.some.inj H
    simp only [Option.some.injEq, Prod.mk.injEq] at H
    obtain ⟨rfl⟩ := H
    go_wp2
    go_ret
    exact ⟨by first | rfl | (simp; done) | (simp [*]; done) | (simp [wrap64]; done), by repeat (first | exact Drawn0.refl _ | apply Drawn0.step)⟩
end Go.Proofs.YtnjdkhnepmmfgaaDoor.PC1
namespace Go.Proofs.YtnjdkhnepmmfgaaDoor.PC1
open Go.RowKit Go.Proofs.YtnjdkhnepmmfgaaDoorW.PrintWords Go.Proofs.YtnjdkhnepmmfgaaDoorW.PrintLast Go.Proofs.YtnjdkhnepmmfgaaDoorW.PrintMore PB1
attribute [local go_sem] max2_int min2_int max_two min_two max_three min_three max_four min_four   -- for this text's walks alone
set_option linter.unusedVariables false
set_option linter.unusedSimpArgs false
/-! ### spec_l07Live: function 81 -/
mutual
def spec_l07Live.l0 : Nat → List Bool → Bool → Int → Int → List Bool → List (List Int) → Option (List Bool)
 | 0, _, _, _, _, _, _ => none
 | k + 1, x3, x4, x81000, x81001, x81002, x81003 => if x4 = true then (spec_l07Live.l1 k x3 false 0 x81000 x81001 x81002 x81003) else (some x3)
def spec_l07Live.l1 : Nat → List Bool → Bool → Int → Int → Int → List Bool → List (List Int) → Option (List Bool)
 | 0, _, _, _, _, _, _, _ => none
 | k + 1, x3, x4, x5, x81000, x81001, x81002, x81003 => if x5 < (x81003.length : Int) then (spec_l07Live.l2 k x3 x4 x5 0 x81000 x81001 x81002 x81003) else (spec_l07Live.l0 k x3 x4 x81000 x81001 x81002 x81003)
def spec_l07Live.l2 : Nat → List Bool → Bool → Int → Int → Int → Int → List Bool → List (List Int) → Option (List Bool)
 | 0, _, _, _, _, _, _, _, _ => none
 | k + 1, x3, x4, x5, x6, x81000, x81001, x81002, x81003 => if 0 ≤ x5 then (if x5 < (x81003.length : Int) then (if x6 < ((rd_L3 x81003 x5).length : Int) then (if 0 ≤ x6 then (if 0 ≤ (rd (rd_L3 x81003 x5) x6) then (if (rd (rd_L3 x81003 x5) x6) < (x3.length : Int) then (if rdOf false x3 (rd (rd_L3 x81003 x5) x6) = true then (if x5 < (x3.length : Int) then (if rdOf false x3 x5 = true then (spec_l07Live.l2 k x3 x4 x5 (wrap64 (x6 + 1)) x81000 x81001 x81002 x81003) else (spec_l07Live.l2 k (x3.set (x5 : Int).toNat true) true x5 (wrap64 (x6 + 1)) x81000 x81001 x81002 x81003)) else (none)) else (spec_l07Live.l2 k x3 x4 x5 (wrap64 (x6 + 1)) x81000 x81001 x81002 x81003)) else (none)) else (none)) else (none)) else (spec_l07Live.l1 k x3 x4 (wrap64 (x5 + 1)) x81000 x81001 x81002 x81003)) else (none)) else (none)
end
def spec_l07Live.f (k : Nat) (a0_0 : Int) (a0_1 : Int) (l0_2 : List Bool) (l0_3 : List (List Int)) : Option (List Bool) := (some (([] : List Bool) : List Bool)).bind fun y113 => (if y113.length + l0_2.length < 140737488355328 then (spec_l07Live.l0 k (y113 ++ l0_2) true a0_0 a0_1 l0_2 l0_3) else (none))
theorem spec_l07Live.mono_l : ∀ k, (∀ y0 y1 y2 y3 y4 y5, LeO (spec_l07Live.l0 k y0 y1 y2 y3 y4 y5) (spec_l07Live.l0 (k + 1) y0 y1 y2 y3 y4 y5)) ∧ (∀ y0 y1 y2 y3 y4 y5 y6, LeO (spec_l07Live.l1 k y0 y1 y2 y3 y4 y5 y6) (spec_l07Live.l1 (k + 1) y0 y1 y2 y3 y4 y5 y6)) ∧ (∀ y0 y1 y2 y3 y4 y5 y6 y7, LeO (spec_l07Live.l2 k y0 y1 y2 y3 y4 y5 y6 y7) (spec_l07Live.l2 (k + 1) y0 y1 y2 y3 y4 y5 y6 y7))
 | 0 => ⟨fun _ _ _ _ _ _ r h => by simp [spec_l07Live.l0] at h, fun _ _ _ _ _ _ _ r h => by simp [spec_l07Live.l1] at h, fun _ _ _ _ _ _ _ _ r h => by simp [spec_l07Live.l2] at h⟩
 | k + 1 => by
  obtain ⟨ih0, ih1, ih2⟩ := spec_l07Live.mono_l k
  refine ⟨?_, ?_, ?_⟩
  ·intro y0 y1 y2 y3 y4 y5
   unfold spec_l07Live.l0
   repeat' first
   | (with_reducible exact ih0 _ _ _ _ _ _)
   | (with_reducible exact ih1 _ _ _ _ _ _ _)
   | (with_reducible exact ih2 _ _ _ _ _ _ _ _)
   | (with_reducible exact LeO.refl _)
   | (with_reducible exact LeO.none _)
   | (with_reducible refine LeO.ite ?_ ?_)
   | (with_reducible refine LeO.bind ?_ (fun _ => ?_))
   | exact ih0 _ _ _ _ _ _
   | exact ih1 _ _ _ _ _ _ _
   | exact ih2 _ _ _ _ _ _ _ _
   | exact LeO.none _
   | refine LeO.ite ?_ ?_
   | refine LeO.bind ?_ (fun _ => ?_)
  ·intro y0 y1 y2 y3 y4 y5 y6
   unfold spec_l07Live.l1
   repeat' first
   | (with_reducible exact ih0 _ _ _ _ _ _)
   | (with_reducible exact ih1 _ _ _ _ _ _ _)
   | (with_reducible exact ih2 _ _ _ _ _ _ _ _)
   | (with_reducible exact LeO.refl _)
   | (with_reducible exact LeO.none _)
   | (with_reducible refine LeO.ite ?_ ?_)
   | (with_reducible refine LeO.bind ?_ (fun _ => ?_))
   | exact ih0 _ _ _ _ _ _
   | exact ih1 _ _ _ _ _ _ _
   | exact ih2 _ _ _ _ _ _ _ _
   | exact LeO.none _
   | refine LeO.ite ?_ ?_
   | refine LeO.bind ?_ (fun _ => ?_)
  ·intro y0 y1 y2 y3 y4 y5 y6 y7
   unfold spec_l07Live.l2
   repeat' first
   | (with_reducible exact ih0 _ _ _ _ _ _)
   | (with_reducible exact ih1 _ _ _ _ _ _ _)
   | (with_reducible exact ih2 _ _ _ _ _ _ _ _)
   | (with_reducible exact LeO.refl _)
   | (with_reducible exact LeO.none _)
   | (with_reducible refine LeO.ite ?_ ?_)
   | (with_reducible refine LeO.bind ?_ (fun _ => ?_))
   | exact ih0 _ _ _ _ _ _
   | exact ih1 _ _ _ _ _ _ _
   | exact ih2 _ _ _ _ _ _ _ _
   | exact LeO.none _
   | refine LeO.ite ?_ ?_
   | refine LeO.bind ?_ (fun _ => ?_)
theorem spec_l07Live.mono : ∀ a0 a1 a2 a3 k, LeO (spec_l07Live.f k a0 a1 a2 a3) (spec_l07Live.f (k + 1) a0 a1 a2 a3) := by
 intro a0 a1 a2 a3 k
 obtain ⟨ih0, ih1, ih2⟩ := spec_l07Live.mono_l k
 unfold spec_l07Live.f
 repeat' first
   | (with_reducible exact ih0 _ _ _ _ _ _)
   | (with_reducible exact ih1 _ _ _ _ _ _ _)
   | (with_reducible exact ih2 _ _ _ _ _ _ _ _)
   | (with_reducible exact LeO.refl _)
   | (with_reducible exact LeO.none _)
   | (with_reducible refine LeO.ite ?_ ?_)
   | (with_reducible refine LeO.bind ?_ (fun _ => ?_))
   | exact ih0 _ _ _ _ _ _
   | exact ih1 _ _ _ _ _ _ _
   | exact ih2 _ _ _ _ _ _ _ _
   | exact LeO.none _
   | refine LeO.ite ?_ ?_
   | refine LeO.bind ?_ (fun _ => ?_)
set_option maxHeartbeats 8000000 in
set_option maxRecDepth 100000 in
theorem spec_l07Live.calls (k : Nat) (gp0 : Nat) (a0_0 : Int) (a0_1 : Int) (A0_2 : Option Addr) (c0_2 : Nat) (l0_2 : List Bool) (A0_3 : Option Addr) (c0_3 : Nat) (l0_3 : List (List Int)) (r : List Bool) (w : World) (hb0 : w.heap[gp0]? = some (.cells #[.int .i64 a0_0, .int .i64 a0_1, .slice A0_2 l0_2.length c0_2, .slice A0_3 l0_3.length c0_3] 27 (0, 0))) (hr0_2 : Kd.C Kd.bool w A0_2 l0_2.length l0_2) (hc0_2 : l0_2.length ≤ c0_2) (hr0_3 : Kd.C (Kd.slice 2 (Kd.int .i64)) w A0_3 l0_3.length l0_3) (hc0_3 : l0_3.length ≤ c0_3) (h : spec_l07Live.f k a0_0 a0_1 l0_2 l0_3 = some r) :
  Calls Tryd.prog 81 #[.pointer (some ⟨gp0, 0, none⟩)] w fun e w' => ∃ v0_ : Value, e = .returned (v0_) ∧ Kd.R Kd.bool 4 w' w.heap.size (fun _ => True) v0_ r ∧ Below w.heap.size w w' := by
 have HR0_2 := Aside0.mk hr0_2
 have HC0_2 := Aside0.mk hc0_2
 clear hr0_2 hc0_2
 have HR0_3 := Aside0.mk hr0_3
 have HC0_3 := Aside0.mk hc0_3
 clear hr0_3 hc0_3
 have BK80 := Aside0.mk hb0
 clear hb0
 have HB := Aside0.mk (Below.refl w.heap.size w)
 have H : ((some (([] : List Bool) : List Bool)).bind fun y113 => (if y113.length + l0_2.length < 140737488355328 then (spec_l07Live.l0 k (y113 ++ l0_2) true a0_0 a0_1 l0_2 l0_3) else (none))) = some r := h
 clear h
 obtain ⟨y113, hy113⟩ : ∃ y_ : List Bool, y_ = (([] : List Bool)) := ⟨_, rfl⟩
 replace H : (if y113.length + l0_2.length < 140737488355328 then (spec_l07Live.l0 k (y113 ++ l0_2) true a0_0 a0_1 l0_2 l0_3) else (none)) = some r := by first | (rw [hy113]; with_reducible exact H) | (have H2_ := (Option.bind_some _ _).symm.trans H; rw [hy113]; with_reducible exact H2_) | (have H2_ := (Option.bind_some _ _).symm.trans H; with_reducible exact H2_) | with_reducible exact H | (rw [hy113]; exact H) | exact H
 have Ny113 := Aside0.mk hy113
 clear hy113
 by_cases c2 : y113.length + l0_2.length < 140737488355328
 ·rw [if_pos c2] at H
  have LMc2 := Aside0.mk c2
  clear c2
  obtain ⟨y116, hy116⟩ : ∃ y_ : List Bool, y_ = (y113 ++ l0_2) := ⟨_, rfl⟩
  replace H : (spec_l07Live.l0 k y116 true a0_0 a0_1 l0_2 l0_3) = some r := by first | (rw [hy116]; with_reducible exact H) | (have H2_ := (Option.bind_some _ _).symm.trans H; rw [hy116]; with_reducible exact H2_) | (have H2_ := (Option.bind_some _ _).symm.trans H; with_reducible exact H2_) | with_reducible exact H | (rw [hy116]; exact H) | exact H
  have Ny116 := Aside0.mk hy116
  clear hy116
  have H' := Aside0.mk H
  clear H
  go_enter Tryd.func81, Tryd.ntmps81
  go_wp2_with (first | ((with_reducible refine gate_dst (N := 7) rfl ?_); refine Kd.R_lit Kd.bool _ 4 ?hg (N := 7) ?hd (xs := ([] : List Bool)) (inner := []) (ok := fun _ => True) (okp := fun _ => True) ?hr ?hp (fun _ hk => hk) trivial (Below.refl _ _) (Nat.le_refl _) (by simp) ?_; (case hd => rfl); (case hg => rfl); (case hr => first | (go_simp; done) | (go_simp; rfl)); (case hp => exact (Reps.none _ _)); intro v114 w3 ho4 hb hg_ hnew_; clear hg_ hnew_; (first | rw [← Ny113.out] at ho4 | (simp only [Int.reduceToNat] at ho4; rw [← Ny113.out] at ho4)); have n0_ := Aside0.mk (Kd.R_lower ho4 (below_size (by repeat (first | (with_reducible first | exact HB.out | apply below_alloc | apply pw_below_drewN | apply below_drew1 | refine below_set ?_ GE80.out) | exact HB.out)))); have n1_ := Aside0.mk (blk_below (g := gp0) (o := .cells #[.int .i64 a0_0, .int .i64 a0_1, .slice A0_2 l0_2.length c0_2, .slice A0_3 l0_3.length c0_3] 27 (0, 0)) (by (with_reducible repeat (first | refine blk_drewN ?_ _ | refine blk_drew ?_ | refine blk_alloc ?_ _)); exact BK80.out) hb); have n2_ := Aside0.mk (below_step (by repeat (first | (with_reducible first | exact HB.out | apply below_alloc | apply pw_below_drewN | apply below_drew1 | refine below_set ?_ GE80.out) | exact HB.out)) hb); clear BK80; clear HB; have HO115 := n0_; have BK80 := n1_; have HB := n2_; clear n0_ n1_ n2_; clear hb ho4; have hcz5_0 : w3.cell? ⟨gp0, 0, none⟩ = some (.int .i64 a0_0) := (blk_cell BK80.out 0).trans rfl; have hcz5_1 : w3.cell? ⟨gp0, 1, none⟩ = some (.int .i64 a0_1) := (blk_cell BK80.out 1).trans rfl; have hcz5_2 : w3.cell? ⟨gp0, 2, none⟩ = some (.slice A0_2 l0_2.length c0_2) := (blk_cell BK80.out 2).trans rfl; have hcz5_3 : w3.cell? ⟨gp0, 3, none⟩ = some (.slice A0_3 l0_3.length c0_3) := (blk_cell BK80.out 3).trans rfl; have hfz5_0 := blk_frozen BK80.out 0; have hfz5_1 := blk_frozen BK80.out 1; have hfz5_2 := blk_frozen BK80.out 2; have hfz5_3 := blk_frozen BK80.out 3) | ((with_reducible refine gate_builtin (b := .append) (xs := #[.tmp 7, .tmp 11]) rfl ?_); at_builtin; refine Kd.R_append_rows Kd.bool (w0 := w) w.heap.size rfl (.tmp 7) (.tmp 11) 22 4 (.bool false) 1 rfl Tryd.underlying22 info4 rfl (by decide) (by omega) v114 y113 l0_2 _ _ _ (fun _ => True) (fun _ => False) rfl rfl ?aO ?aR (fun _ _ h => h) (fun _ h => h.elim) ?aF ?aB ?aS ?aL ?_; (case aR => repeat (first | exact (Kd.C_below HR0_2.out HB.out) | (with_reducible refine Kd.C_alloc ?_ _) | (with_reducible refine Kd.C_drewN ?_ _) | (with_reducible refine Kd.C_drew ?_))); (case aB => exact (by repeat (first | (with_reducible first | exact HB.out | apply below_alloc | apply pw_below_drewN | apply below_drew1 | refine below_set ?_ GE80.out) | exact HB.out))); (case aF => exact (fun _ _ => trivial)); (case aO => exact (by (with_reducible repeat (first | apply Kd.R_alloc | apply Kd.R_drewN | apply Kd.R_drew)); exact HO115.out)); (case aS => exact (below_size (by repeat (first | (with_reducible first | exact HB.out | apply below_alloc | apply pw_below_drewN | apply below_drew1 | refine below_set ?_ GE80.out) | exact HB.out)))); (case aL => have := LMc2.out; omega); intro v117 w6 ho hb hg hat; rw [← Ny116.out] at ho; have n0_ := Aside0.mk (blk_grown (g := gp0) (o := .cells #[.int .i64 a0_0, .int .i64 a0_1, .slice A0_2 l0_2.length c0_2, .slice A0_3 l0_3.length c0_3] 27 (0, 0)) (by (with_reducible repeat (first | refine blk_drewN ?_ _ | refine blk_drew ?_ | refine blk_alloc ?_ _)); exact BK80.out) hg (Kd.R_ne HO115.out BK80.out (by decide))); have n1_ := Aside0.mk (hb); have n2_ := Aside0.mk (ho); clear BK80; clear HB; clear HO115; have BK80 := n0_; have HB := n1_; have HO118 := n2_; clear n0_ n1_ n2_; clear ho hb hg hat))
  go_loopg [4] k (fun kq v4 w' => ∃ (x3_1 : List Bool) (x4_1 : Bool), v4 = .bool x4_1 ∧ Aside0 (spec_l07Live.l0 kq x3_1 x4_1 a0_0 a0_1 l0_2 l0_3 = some r) ∧ Aside0 (kq ≤ k) ∧ Aside0 (Kd.R Kd.bool 4 w' w.heap.size (fun _ => True) v117 x3_1) ∧ Aside0 (w'.heap[gp0]? = some (.cells #[.int .i64 a0_0, .int .i64 a0_1, (.slice A0_2 l0_2.length c0_2), (.slice A0_3 l0_3.length c0_3)] 27 (0, 0))) ∧ Aside0 (Below w.heap.size w w'))
  case atStart => exact ⟨(y116), (true), (by first | rfl | (simp; done) | (simp [*]; done) | (simp [wrap64]; done)), H', ⟨Nat.le_refl _⟩, ⟨by (with_reducible repeat (first | apply Kd.R_alloc | apply Kd.R_drewN | apply Kd.R_drew)); exact HO118.out⟩, ⟨by (with_reducible repeat (first | refine blk_drewN ?_ _ | refine blk_drew ?_ | refine blk_alloc ?_ _)); exact BK80.out⟩, ⟨by repeat (first | (with_reducible first | exact HB.out | apply below_alloc | apply pw_below_drewN | apply below_drew1 | refine below_set ?_ GE80.out) | exact HB.out)⟩⟩
  case round =>
   clear H'
   try clear c2
   try clear p2
   try clear p6
   try clear hcz5_0
   try clear hcz5_1
   try clear hcz5_2
   try clear hcz5_3
   try clear hfz5_0
   try clear hfz5_1
   try clear hfz5_2
   try clear hfz5_3
   obtain ⟨x3_1, x4_1, rfl, HA, HK1, HO_3, BK80, HB⟩ := hrel
   cases gk with
   | zero => exact absurd HA.out (by simp [spec_l07Live.l0])
   | succ k1 =>
    have H := HA.out
    clear HA
    simp only [spec_l07Live.l0] at H
    by_cases c7 : x4_1 = true
    ·subst c7
     have H1 : (spec_l07Live.l1 k1 x3_1 false 0 a0_0 a0_1 l0_2 l0_3) = some r := by rw [if_pos rfl] at H; exact H
     clear H
     have H := H1
     clear H1
     have H' := Aside0.mk H
     clear H
     go_wp2
     go_loopg [4, 5] k1 (fun kq v4 v5 w' => ∃ (x3_2 : List Bool) (x4_2 : Bool) (x5_2 : Int), v4 = .bool x4_2 ∧ v5 = .int .i64 x5_2 ∧ Aside0 (spec_l07Live.l1 kq x3_2 x4_2 x5_2 a0_0 a0_1 l0_2 l0_3 = some r) ∧ Aside0 (kq ≤ k1) ∧ Aside0 (Kd.R Kd.bool 4 w' w.heap.size (fun _ => True) v117 x3_2) ∧ Aside0 (w'.heap[gp0]? = some (.cells #[.int .i64 a0_0, .int .i64 a0_1, (.slice A0_2 l0_2.length c0_2), (.slice A0_3 l0_3.length c0_3)] 27 (0, 0))) ∧ Aside0 (Below w.heap.size w w'))
     case atStart => exact ⟨(x3_1), (false), (0), (by first | rfl | (simp; done) | (simp [*]; done) | (simp [wrap64]; done)), (by first | rfl | (simp; done) | (simp [*]; done) | (simp [wrap64]; done)), H', ⟨Nat.le_refl _⟩, ⟨by (with_reducible repeat (first | apply Kd.R_alloc | apply Kd.R_drewN | apply Kd.R_drew)); exact HO_3.out⟩, ⟨by (with_reducible repeat (first | refine blk_drewN ?_ _ | refine blk_drew ?_ | refine blk_alloc ?_ _)); exact BK80.out⟩, ⟨by repeat (first | (with_reducible first | exact HB.out | apply below_alloc | apply pw_below_drewN | apply below_drew1 | refine below_set ?_ GE80.out) | exact HB.out)⟩⟩
     case round =>
      clear H'
      try clear c2
      try clear p2
      try clear p6
      try clear c7
      try clear hcz5_0
      try clear hcz5_1
      try clear hcz5_2
      try clear hcz5_3
      try clear hfz5_0
      try clear hfz5_1
      try clear hfz5_2
      try clear hfz5_3
      try clear p2
      try clear p6
      obtain ⟨x3_2, x4_2, x5_2, rfl, rfl, HA, HK2, HO_3, BK80, HB⟩ := hrel
      cases gk with
      | zero => exact absurd HA.out (by simp [spec_l07Live.l1])
      | succ k2 =>
       have H := HA.out
       clear HA
       simp only [spec_l07Live.l1] at H
       by_cases c8 : x5_2 < (l0_3.length : Int)
       ·rw [if_pos c8] at H
        have c8b0 : decide (x5_2 < (l0_3.length : Int)) = true := decide_eq_true c8
        clear c8
        have H' := Aside0.mk H
        clear H
        have hcz9_0 : wr.cell? ⟨gp0, 0, none⟩ = some (.int .i64 a0_0) := (blk_cell BK80.out 0).trans rfl
        have hcz9_1 : wr.cell? ⟨gp0, 1, none⟩ = some (.int .i64 a0_1) := (blk_cell BK80.out 1).trans rfl
        have hcz9_2 : wr.cell? ⟨gp0, 2, none⟩ = some (.slice A0_2 l0_2.length c0_2) := (blk_cell BK80.out 2).trans rfl
        have hcz9_3 : wr.cell? ⟨gp0, 3, none⟩ = some (.slice A0_3 l0_3.length c0_3) := (blk_cell BK80.out 3).trans rfl
        have hfz9_0 := blk_frozen BK80.out 0
        have hfz9_1 := blk_frozen BK80.out 1
        have hfz9_2 := blk_frozen BK80.out 2
        have hfz9_3 := blk_frozen BK80.out 3
        go_wp2
        go_loopg [4, 6] k2 (fun kq v4 v6 w' => ∃ (x3_3 : List Bool) (x4_3 : Bool) (x6_3 : Int), v4 = .bool x4_3 ∧ v6 = .int .i64 x6_3 ∧ Aside0 (spec_l07Live.l2 kq x3_3 x4_3 x5_2 x6_3 a0_0 a0_1 l0_2 l0_3 = some r) ∧ Aside0 (kq ≤ k2) ∧ Aside0 (Kd.R Kd.bool 4 w' w.heap.size (fun _ => True) v117 x3_3) ∧ Aside0 (w'.heap[gp0]? = some (.cells #[.int .i64 a0_0, .int .i64 a0_1, (.slice A0_2 l0_2.length c0_2), (.slice A0_3 l0_3.length c0_3)] 27 (0, 0))) ∧ Aside0 (Below w.heap.size w w'))
        case atStart => exact ⟨(x3_2), (x4_2), (0), (by first | rfl | (simp; done) | (simp [*]; done) | (simp [wrap64]; done)), (by first | rfl | (simp; done) | (simp [*]; done) | (simp [wrap64]; done)), H', ⟨Nat.le_refl _⟩, ⟨by (with_reducible repeat (first | apply Kd.R_alloc | apply Kd.R_drewN | apply Kd.R_drew)); exact HO_3.out⟩, ⟨by (with_reducible repeat (first | refine blk_drewN ?_ _ | refine blk_drew ?_ | refine blk_alloc ?_ _)); exact BK80.out⟩, ⟨by repeat (first | (with_reducible first | exact HB.out | apply below_alloc | apply pw_below_drewN | apply below_drew1 | refine below_set ?_ GE80.out) | exact HB.out)⟩⟩
        case round =>
         clear H'
         try clear c2
         try clear p2
         try clear p6
         try clear c7
         try clear c8
         try clear c8b0
         try clear hcz5_0
         try clear hcz5_1
         try clear hcz5_2
         try clear hcz5_3
         try clear hcz9_0
         try clear hcz9_1
         try clear hcz9_2
         try clear hcz9_3
         try clear hfz5_0
         try clear hfz5_1
         try clear hfz5_2
         try clear hfz5_3
         try clear hfz9_0
         try clear hfz9_1
         try clear hfz9_2
         try clear hfz9_3
         try clear p2
         try clear p6
         obtain ⟨x3_3, x4_3, x6_3, rfl, rfl, HA, HK3, HO_3, BK80, HB⟩ := hrel
         cases gk with
         | zero => exact absurd HA.out (by simp [spec_l07Live.l2])
         | succ k3 =>
          have H := HA.out
          clear HA
          simp only [spec_l07Live.l2] at H
          by_cases c10 : 0 ≤ x5_2
          ·rw [if_pos c10] at H
           have c10b0 : decide (0 ≤ x5_2) = true := decide_eq_true c10
           clear c10
           by_cases c11 : x5_2 < (l0_3.length : Int)
           ·rw [if_pos c11] at H
            have c11b0 : decide (x5_2 < (l0_3.length : Int)) = true := decide_eq_true c11
            clear c11
            by_cases c12 : x6_3 < ((rd_L3 l0_3 x5_2).length : Int)
            ·rw [if_pos c12] at H
             have c12b0 : decide (x6_3 < ((rd_L3 l0_3 x5_2).length : Int)) = true := decide_eq_true c12
             clear c12
             by_cases c13 : 0 ≤ x6_3
             ·rw [if_pos c13] at H
              have c13b0 : decide (0 ≤ x6_3) = true := decide_eq_true c13
              clear c13
              by_cases c14 : 0 ≤ (rd (rd_L3 l0_3 x5_2) x6_3)
              ·rw [if_pos c14] at H
               have c14b0 : decide (0 ≤ (rd (rd_L3 l0_3 x5_2) x6_3)) = true := decide_eq_true c14
               clear c14
               by_cases c15 : (rd (rd_L3 l0_3 x5_2) x6_3) < (x3_3.length : Int)
               ·rw [if_pos c15] at H
                have c15b0 : decide ((rd (rd_L3 l0_3 x5_2) x6_3) < (x3_3.length : Int)) = true := decide_eq_true c15
                clear c15
                obtain ⟨bq16, hbq16⟩ : ∃ b_ : Bool, b_ = (rdOf false x3_3 (rd (rd_L3 l0_3 x5_2) x6_3)) := ⟨_, rfl⟩
                replace H : (if bq16 = true then (if x5_2 < (x3_3.length : Int) then (if rdOf false x3_3 x5_2 = true then (spec_l07Live.l2 k3 x3_3 x4_3 x5_2 (wrap64 (x6_3 + 1)) a0_0 a0_1 l0_2 l0_3) else (spec_l07Live.l2 k3 (x3_3.set (x5_2 : Int).toNat true) true x5_2 (wrap64 (x6_3 + 1)) a0_0 a0_1 l0_2 l0_3)) else (none)) else (spec_l07Live.l2 k3 x3_3 x4_3 x5_2 (wrap64 (x6_3 + 1)) a0_0 a0_1 l0_2 l0_3)) = some r := by rw [← hbq16] at H; exact H
                have Nbq16 := Aside0.mk hbq16
                clear hbq16
                by_cases c17 : bq16 = true
                ·subst c17
                 have H1 : (if x5_2 < (x3_3.length : Int) then (if rdOf false x3_3 x5_2 = true then (spec_l07Live.l2 k3 x3_3 x4_3 x5_2 (wrap64 (x6_3 + 1)) a0_0 a0_1 l0_2 l0_3) else (spec_l07Live.l2 k3 (x3_3.set (x5_2 : Int).toNat true) true x5_2 (wrap64 (x6_3 + 1)) a0_0 a0_1 l0_2 l0_3)) else (none)) = some r := by rw [if_pos rfl] at H; exact H
                 clear H
                 have H := H1
                 clear H1
                 by_cases c18 : x5_2 < (x3_3.length : Int)
                 ·rw [if_pos c18] at H
                  have c18b0 : decide (x5_2 < (x3_3.length : Int)) = true := decide_eq_true c18
                  clear c18
                  obtain ⟨bq19, hbq19⟩ : ∃ b_ : Bool, b_ = (rdOf false x3_3 x5_2) := ⟨_, rfl⟩
                  replace H : (if bq19 = true then (spec_l07Live.l2 k3 x3_3 x4_3 x5_2 (wrap64 (x6_3 + 1)) a0_0 a0_1 l0_2 l0_3) else (spec_l07Live.l2 k3 (x3_3.set (x5_2 : Int).toNat true) true x5_2 (wrap64 (x6_3 + 1)) a0_0 a0_1 l0_2 l0_3)) = some r := by rw [← hbq19] at H; exact H
                  have Nbq19 := Aside0.mk hbq19
                  clear hbq19
                  by_cases c20 : bq19 = true
                  ·subst c20
                   have H1 : (spec_l07Live.l2 k3 x3_3 x4_3 x5_2 (wrap64 (x6_3 + 1)) a0_0 a0_1 l0_2 l0_3) = some r := by rw [if_pos rfl] at H; exact H
                   clear H
                   have H := H1
                   clear H1
                   have H' := Aside0.mk H
                   clear H
                   have hcz21_0 : wr.cell? ⟨gp0, 0, none⟩ = some (.int .i64 a0_0) := (blk_cell BK80.out 0).trans rfl
                   have hcz21_1 : wr.cell? ⟨gp0, 1, none⟩ = some (.int .i64 a0_1) := (blk_cell BK80.out 1).trans rfl
                   have hcz21_2 : wr.cell? ⟨gp0, 2, none⟩ = some (.slice A0_2 l0_2.length c0_2) := (blk_cell BK80.out 2).trans rfl
                   have hcz21_3 : wr.cell? ⟨gp0, 3, none⟩ = some (.slice A0_3 l0_3.length c0_3) := (blk_cell BK80.out 3).trans rfl
                   have hfz21_0 := blk_frozen BK80.out 0
                   have hfz21_1 := blk_frozen BK80.out 1
                   have hfz21_2 := blk_frozen BK80.out 2
                   have hfz21_3 := blk_frozen BK80.out 3
                   have p119 : 0 ≤ (x5_2 : Int) := of_decide_eq_true (by first | (with_reducible assumption) | assumption)
                   have q119 : x5_2 < (l0_3.length : Int) := of_decide_eq_true (by first | (with_reducible assumption) | assumption)
                   obtain ⟨ad119, A119_0, c119_0, e119, hx119_0, hl119_0, hi119_0⟩ := at_L3 HR0_3.out x5_2 p119 q119
                   cases e119
                   replace hx119_0 := (HB.out.cell (World.block_lt_of_cell? w _ hx119_0)).trans hx119_0
                   have HR119_0 := Aside0.mk hi119_0
                   have HC119_0 := Aside0.mk hl119_0
                   clear hi119_0 hl119_0
                   replace p119 := eq_true p119
                   replace q119 := eq_true q119
                   have p120 : 0 ≤ (x5_2 : Int) := of_decide_eq_true (by first | (with_reducible assumption) | assumption)
                   have q120 : x5_2 < (l0_3.length : Int) := of_decide_eq_true (by first | (with_reducible assumption) | assumption)
                   obtain ⟨ad120, A120_0, c120_0, e120, hx120_0, hl120_0, hi120_0⟩ := at_L3 HR0_3.out x5_2 p120 q120
                   obtain rfl : ad119 = ad120 := (by injection e120)
                   replace hx120_0 := (HB.out.cell (World.block_lt_of_cell? w _ hx120_0)).trans hx120_0
                   have HR120_0 := Aside0.mk hi120_0
                   have HC120_0 := Aside0.mk hl120_0
                   clear hi120_0 hl120_0
                   replace p120 := eq_true p120
                   replace q120 := eq_true q120
                   have ea_ := Option.some.inj (hx119_0.symm.trans hx120_0)
                   injection ea_ with ea_ en_ ec_
                   subst ea_
                   subst ec_
                   clear en_
                   have p121 : 0 ≤ (x6_3 : Int) := of_decide_eq_true (by first | (with_reducible assumption) | assumption)
                   have q121 : x6_3 < ((rd_L3 l0_3 x5_2).length : Int) := of_decide_eq_true (by first | (with_reducible assumption) | assumption)
                   obtain ⟨ad121, e121, hx121_0⟩ := Kd.at_int HR120_0.out x6_3 p121 q121
                   cases e121
                   replace hx121_0 := (HB.out.cell (World.block_lt_of_cell? w _ hx121_0)).trans hx121_0
                   replace p121 := eq_true p121
                   replace q121 := eq_true q121
                   obtain ⟨Ao22, co22, eo22⟩ := Kd.R_slice HO_3.out
                   subst eo22
                   have p122 : 0 ≤ ((rd (rd_L3 l0_3 x5_2) x6_3) : Int) := of_decide_eq_true (by first | (with_reducible assumption) | assumption)
                   have q122 : (rd (rd_L3 l0_3 x5_2) x6_3) < (x3_3.length : Int) := of_decide_eq_true (by first | (with_reducible assumption) | assumption)
                   obtain ⟨ad122, e122, hx122_0⟩ := Kd.at_bool (Kd.R_reads' HO_3.out).2.2 (rd (rd_L3 l0_3 x5_2) x6_3) p122 q122
                   (try rw [← Nbq16.out] at hx122_0)
                   (try rw [← Nbq19.out] at hx122_0)
                   cases e122
                   replace p122 := eq_true p122
                   replace q122 := eq_true q122
                   have p123 : 0 ≤ (x5_2 : Int) := of_decide_eq_true (by first | (with_reducible assumption) | assumption)
                   have q123 : x5_2 < (x3_3.length : Int) := of_decide_eq_true (by first | (with_reducible assumption) | assumption)
                   obtain ⟨ad123, e123, hx123_0⟩ := Kd.at_bool (Kd.R_reads' HO_3.out).2.2 x5_2 p123 q123
                   (try rw [← Nbq16.out] at hx123_0)
                   (try rw [← Nbq19.out] at hx123_0)
                   obtain rfl : ad122 = ad123 := (by injection e123)
                   replace p123 := eq_true p123
                   replace q123 := eq_true q123
                   go_wp2
                   go_roundg k3
                   case measure => have := HK1.out; have := HK2.out; have := HK3.out; omega
                   case rel => exact ⟨(x3_3), (x4_3), (wrap64 (x6_3 + 1)), (by first | rfl | (simp; done) | (simp [*]; done) | (simp [wrap64]; done)), (by first | rfl | (simp; done) | (simp [*]; done) | (simp [wrap64]; done)), H', ⟨by have := HK1.out; have := HK2.out; have := HK3.out; omega⟩, ⟨by (with_reducible repeat (first | apply Kd.R_alloc | apply Kd.R_drewN | apply Kd.R_drew)); exact HO_3.out⟩, ⟨by (with_reducible repeat (first | refine blk_drewN ?_ _ | refine blk_drew ?_ | refine blk_alloc ?_ _)); exact BK80.out⟩, ⟨by repeat (first | (with_reducible first | exact HB.out | apply below_alloc | apply pw_below_drewN | apply below_drew1 | refine below_set ?_ GE80.out) | exact HB.out)⟩⟩
                  ·replace c20 := Bool.eq_false_iff.mpr c20
                   subst c20
                   have H1 : (spec_l07Live.l2 k3 (x3_3.set (x5_2 : Int).toNat true) true x5_2 (wrap64 (x6_3 + 1)) a0_0 a0_1 l0_2 l0_3) = some r := by rw [if_neg (show ¬ (false = true) by decide)] at H; exact H
                   clear H
                   have H := H1
                   clear H1
                   obtain ⟨y124, hy124⟩ : ∃ y_ : List Bool, y_ = (x3_3.set (x5_2 : Int).toNat true) := ⟨_, rfl⟩
                   replace H : (spec_l07Live.l2 k3 y124 true x5_2 (wrap64 (x6_3 + 1)) a0_0 a0_1 l0_2 l0_3) = some r := by first | (rw [hy124]; with_reducible exact H) | (have H2_ := (Option.bind_some _ _).symm.trans H; rw [hy124]; with_reducible exact H2_) | (have H2_ := (Option.bind_some _ _).symm.trans H; with_reducible exact H2_) | with_reducible exact H | (rw [hy124]; exact H) | exact H
                   have Ny124 := Aside0.mk hy124
                   clear hy124
                   have H' := Aside0.mk H
                   clear H
                   have hcz24_0 : wr.cell? ⟨gp0, 0, none⟩ = some (.int .i64 a0_0) := (blk_cell BK80.out 0).trans rfl
                   have hcz24_1 : wr.cell? ⟨gp0, 1, none⟩ = some (.int .i64 a0_1) := (blk_cell BK80.out 1).trans rfl
                   have hcz24_2 : wr.cell? ⟨gp0, 2, none⟩ = some (.slice A0_2 l0_2.length c0_2) := (blk_cell BK80.out 2).trans rfl
                   have hcz24_3 : wr.cell? ⟨gp0, 3, none⟩ = some (.slice A0_3 l0_3.length c0_3) := (blk_cell BK80.out 3).trans rfl
                   have hfz24_0 := blk_frozen BK80.out 0
                   have hfz24_1 := blk_frozen BK80.out 1
                   have hfz24_2 := blk_frozen BK80.out 2
                   have hfz24_3 := blk_frozen BK80.out 3
                   have p119 : 0 ≤ (x5_2 : Int) := of_decide_eq_true (by first | (with_reducible assumption) | assumption)
                   have q119 : x5_2 < (l0_3.length : Int) := of_decide_eq_true (by first | (with_reducible assumption) | assumption)
                   obtain ⟨ad119, A119_0, c119_0, e119, hx119_0, hl119_0, hi119_0⟩ := at_L3 HR0_3.out x5_2 p119 q119
                   cases e119
                   replace hx119_0 := (HB.out.cell (World.block_lt_of_cell? w _ hx119_0)).trans hx119_0
                   have HR119_0 := Aside0.mk hi119_0
                   have HC119_0 := Aside0.mk hl119_0
                   clear hi119_0 hl119_0
                   replace p119 := eq_true p119
                   replace q119 := eq_true q119
                   have p120 : 0 ≤ (x5_2 : Int) := of_decide_eq_true (by first | (with_reducible assumption) | assumption)
                   have q120 : x5_2 < (l0_3.length : Int) := of_decide_eq_true (by first | (with_reducible assumption) | assumption)
                   obtain ⟨ad120, A120_0, c120_0, e120, hx120_0, hl120_0, hi120_0⟩ := at_L3 HR0_3.out x5_2 p120 q120
                   obtain rfl : ad119 = ad120 := (by injection e120)
                   replace hx120_0 := (HB.out.cell (World.block_lt_of_cell? w _ hx120_0)).trans hx120_0
                   have HR120_0 := Aside0.mk hi120_0
                   have HC120_0 := Aside0.mk hl120_0
                   clear hi120_0 hl120_0
                   replace p120 := eq_true p120
                   replace q120 := eq_true q120
                   have ea_ := Option.some.inj (hx119_0.symm.trans hx120_0)
                   injection ea_ with ea_ en_ ec_
                   subst ea_
                   subst ec_
                   clear en_
                   have p121 : 0 ≤ (x6_3 : Int) := of_decide_eq_true (by first | (with_reducible assumption) | assumption)
                   have q121 : x6_3 < ((rd_L3 l0_3 x5_2).length : Int) := of_decide_eq_true (by first | (with_reducible assumption) | assumption)
                   obtain ⟨ad121, e121, hx121_0⟩ := Kd.at_int HR120_0.out x6_3 p121 q121
                   cases e121
                   replace hx121_0 := (HB.out.cell (World.block_lt_of_cell? w _ hx121_0)).trans hx121_0
                   replace p121 := eq_true p121
                   replace q121 := eq_true q121
                   obtain ⟨Ao25, co25, eo25⟩ := Kd.R_slice HO_3.out
                   subst eo25
                   have p122 : 0 ≤ ((rd (rd_L3 l0_3 x5_2) x6_3) : Int) := of_decide_eq_true (by first | (with_reducible assumption) | assumption)
                   have q122 : (rd (rd_L3 l0_3 x5_2) x6_3) < (x3_3.length : Int) := of_decide_eq_true (by first | (with_reducible assumption) | assumption)
                   obtain ⟨ad122, e122, hx122_0⟩ := Kd.at_bool (Kd.R_reads' HO_3.out).2.2 (rd (rd_L3 l0_3 x5_2) x6_3) p122 q122
                   (try rw [← Nbq16.out] at hx122_0)
                   (try rw [← Nbq19.out] at hx122_0)
                   cases e122
                   replace p122 := eq_true p122
                   replace q122 := eq_true q122
                   have p123 : 0 ≤ (x5_2 : Int) := of_decide_eq_true (by first | (with_reducible assumption) | assumption)
                   have q123 : x5_2 < (x3_3.length : Int) := of_decide_eq_true (by first | (with_reducible assumption) | assumption)
                   obtain ⟨ad123, e123, hx123_0⟩ := Kd.at_bool (Kd.R_reads' HO_3.out).2.2 x5_2 p123 q123
                   (try rw [← Nbq16.out] at hx123_0)
                   (try rw [← Nbq19.out] at hx123_0)
                   obtain rfl : ad122 = ad123 := (by injection e123)
                   replace p123 := eq_true p123
                   replace q123 := eq_true q123
                   have p23 : 0 ≤ (x5_2 : Int) := of_decide_eq_true (by first | (with_reducible assumption) | assumption)
                   have q23 : (x5_2 : Int) < ((x3_3.length : Int) : Int) := of_decide_eq_true (by first | (with_reducible assumption) | assumption)
                   obtain ⟨go23, co23, eo23, gb23, gl23, cl23, HG23⟩ := Kd.R_form HO_3.out (by omega)
                   (first | cases eo23 | (injection eo23 with ea_ en_ ec_; (first | subst ea_ | (injection ea_ with ea_; subst ea_)); subst ec_; clear en_))
                   have GB23 := Aside0.mk gb23
                   have GG23 := Aside0.mk HG23
                   clear gb23 gl23 HG23
                   (first | simp only [add_plain] at hx122_0 | skip)
                   (first | simp only [add_plain] at hx123_0 | skip)
                   obtain ⟨hx23_0, hf23_0⟩ := Kd.R_celln false HO_3.out (x5_2 : Int) p23 q23
                   replace p23 := eq_true p23
                   replace q23 := eq_true q23
                   have HP26 := Kd.R_putg HO_3.out (x5_2 : Int) true
                   go_wp2_with (first | ((with_reducible refine gate_store (t := 4) (p := 57) rfl ?_); refine store_event (t := 4) (p := 57) (v := ?vo_w27) (w1 := (wr.setCell ⟨go23, (x5_2 : Int).toNat, none⟩ (.bool true))) ?hg ?ho ?hn ?hr ?_; (case ho => rfl); (case hg => rfl); (case hn => rfl); (case hr => first | (go_simp; done) | (go_simp; rfl)); intro w27 hw; have hg : wr.grownBy w27 (some go23) := (by rw [hw]; exact HP26.2); have hp_ : Kd.R Kd.bool 4 w27 w.heap.size (fun _ => True) (.slice (some ⟨go23, 0, none⟩) x3_3.length co25) y124 := (by rw [hw, Ny124.out]; exact HP26.1); clear HP26; have n0_ := Aside0.mk (hp_); have n1_ := Aside0.mk (blk_grown (g := gp0) (o := .cells #[.int .i64 a0_0, .int .i64 a0_1, .slice A0_2 l0_2.length c0_2, .slice (some ad119) l0_3.length c0_3] 27 (0, 0)) (by (with_reducible repeat (first | refine blk_drewN ?_ _ | refine blk_drew ?_ | refine blk_alloc ?_ _)); exact BK80.out) hg (Kd.R_ne HO_3.out BK80.out (by decide))); have n2_ := Aside0.mk ((by rw [hw]; exact below_set (HB.out) GB23.out : Below w.heap.size w w27)); clear HO_3; clear BK80; clear HB; have HO_3 := n0_; have BK80 := n1_; have HB := n2_; clear n0_ n1_ n2_; clear hg hw hp_))
                   go_roundg k3
                   case measure => have := HK1.out; have := HK2.out; have := HK3.out; omega
                   case rel => exact ⟨(y124), (true), (wrap64 (x6_3 + 1)), (by first | rfl | (simp; done) | (simp [*]; done) | (simp [wrap64]; done)), (by first | rfl | (simp; done) | (simp [*]; done) | (simp [wrap64]; done)), H', ⟨by have := HK1.out; have := HK2.out; have := HK3.out; omega⟩, ⟨by (with_reducible repeat (first | apply Kd.R_alloc | apply Kd.R_drewN | apply Kd.R_drew)); exact HO_3.out⟩, ⟨by (with_reducible repeat (first | refine blk_drewN ?_ _ | refine blk_drew ?_ | refine blk_alloc ?_ _)); exact BK80.out⟩, ⟨by repeat (first | (with_reducible first | exact HB.out | apply below_alloc | apply pw_below_drewN | apply below_drew1 | refine below_set ?_ GE80.out) | exact HB.out)⟩⟩
                 ·rw [if_neg c18] at H
                  exact absurd H (by simp)
                ·replace c17 := Bool.eq_false_iff.mpr c17
                 subst c17
                 have H1 : (spec_l07Live.l2 k3 x3_3 x4_3 x5_2 (wrap64 (x6_3 + 1)) a0_0 a0_1 l0_2 l0_3) = some r := by rw [if_neg (show ¬ (false = true) by decide)] at H; exact H
                 clear H
                 have H := H1
                 clear H1
                 have H' := Aside0.mk H
                 clear H
                 have hcz28_0 : wr.cell? ⟨gp0, 0, none⟩ = some (.int .i64 a0_0) := (blk_cell BK80.out 0).trans rfl
                 have hcz28_1 : wr.cell? ⟨gp0, 1, none⟩ = some (.int .i64 a0_1) := (blk_cell BK80.out 1).trans rfl
                 have hcz28_2 : wr.cell? ⟨gp0, 2, none⟩ = some (.slice A0_2 l0_2.length c0_2) := (blk_cell BK80.out 2).trans rfl
                 have hcz28_3 : wr.cell? ⟨gp0, 3, none⟩ = some (.slice A0_3 l0_3.length c0_3) := (blk_cell BK80.out 3).trans rfl
                 have hfz28_0 := blk_frozen BK80.out 0
                 have hfz28_1 := blk_frozen BK80.out 1
                 have hfz28_2 := blk_frozen BK80.out 2
                 have hfz28_3 := blk_frozen BK80.out 3
                 have p119 : 0 ≤ (x5_2 : Int) := of_decide_eq_true (by first | (with_reducible assumption) | assumption)
                 have q119 : x5_2 < (l0_3.length : Int) := of_decide_eq_true (by first | (with_reducible assumption) | assumption)
                 obtain ⟨ad119, A119_0, c119_0, e119, hx119_0, hl119_0, hi119_0⟩ := at_L3 HR0_3.out x5_2 p119 q119
                 cases e119
                 replace hx119_0 := (HB.out.cell (World.block_lt_of_cell? w _ hx119_0)).trans hx119_0
                 have HR119_0 := Aside0.mk hi119_0
                 have HC119_0 := Aside0.mk hl119_0
                 clear hi119_0 hl119_0
                 replace p119 := eq_true p119
                 replace q119 := eq_true q119
                 have p120 : 0 ≤ (x5_2 : Int) := of_decide_eq_true (by first | (with_reducible assumption) | assumption)
                 have q120 : x5_2 < (l0_3.length : Int) := of_decide_eq_true (by first | (with_reducible assumption) | assumption)
                 obtain ⟨ad120, A120_0, c120_0, e120, hx120_0, hl120_0, hi120_0⟩ := at_L3 HR0_3.out x5_2 p120 q120
                 obtain rfl : ad119 = ad120 := (by injection e120)
                 replace hx120_0 := (HB.out.cell (World.block_lt_of_cell? w _ hx120_0)).trans hx120_0
                 have HR120_0 := Aside0.mk hi120_0
                 have HC120_0 := Aside0.mk hl120_0
                 clear hi120_0 hl120_0
                 replace p120 := eq_true p120
                 replace q120 := eq_true q120
                 have ea_ := Option.some.inj (hx119_0.symm.trans hx120_0)
                 injection ea_ with ea_ en_ ec_
                 subst ea_
                 subst ec_
                 clear en_
                 have p121 : 0 ≤ (x6_3 : Int) := of_decide_eq_true (by first | (with_reducible assumption) | assumption)
                 have q121 : x6_3 < ((rd_L3 l0_3 x5_2).length : Int) := of_decide_eq_true (by first | (with_reducible assumption) | assumption)
                 obtain ⟨ad121, e121, hx121_0⟩ := Kd.at_int HR120_0.out x6_3 p121 q121
                 cases e121
                 replace hx121_0 := (HB.out.cell (World.block_lt_of_cell? w _ hx121_0)).trans hx121_0
                 replace p121 := eq_true p121
                 replace q121 := eq_true q121
                 obtain ⟨Ao29, co29, eo29⟩ := Kd.R_slice HO_3.out
                 subst eo29
                 have p122 : 0 ≤ ((rd (rd_L3 l0_3 x5_2) x6_3) : Int) := of_decide_eq_true (by first | (with_reducible assumption) | assumption)
                 have q122 : (rd (rd_L3 l0_3 x5_2) x6_3) < (x3_3.length : Int) := of_decide_eq_true (by first | (with_reducible assumption) | assumption)
                 obtain ⟨ad122, e122, hx122_0⟩ := Kd.at_bool (Kd.R_reads' HO_3.out).2.2 (rd (rd_L3 l0_3 x5_2) x6_3) p122 q122
                 (try rw [← Nbq16.out] at hx122_0)
                 cases e122
                 replace p122 := eq_true p122
                 replace q122 := eq_true q122
                 go_wp2
                 go_roundg k3
                 case measure => have := HK1.out; have := HK2.out; have := HK3.out; omega
                 case rel => exact ⟨(x3_3), (x4_3), (wrap64 (x6_3 + 1)), (by first | rfl | (simp; done) | (simp [*]; done) | (simp [wrap64]; done)), (by first | rfl | (simp; done) | (simp [*]; done) | (simp [wrap64]; done)), H', ⟨by have := HK1.out; have := HK2.out; have := HK3.out; omega⟩, ⟨by (with_reducible repeat (first | apply Kd.R_alloc | apply Kd.R_drewN | apply Kd.R_drew)); exact HO_3.out⟩, ⟨by (with_reducible repeat (first | refine blk_drewN ?_ _ | refine blk_drew ?_ | refine blk_alloc ?_ _)); exact BK80.out⟩, ⟨by repeat (first | (with_reducible first | exact HB.out | apply below_alloc | apply pw_below_drewN | apply below_drew1 | refine below_set ?_ GE80.out) | exact HB.out)⟩⟩
               ·rw [if_neg c15] at H
                exact absurd H (by simp)
              ·rw [if_neg c14] at H
               exact absurd H (by simp)
             ·rw [if_neg c13] at H
              exact absurd H (by simp)
            ·rw [if_neg c12] at H
             have c12b0 : decide (x6_3 < ((rd_L3 l0_3 x5_2).length : Int)) = false := decide_eq_false c12
             clear c12
             have H' := Aside0.mk H
             clear H
             have hcz30_0 : wr.cell? ⟨gp0, 0, none⟩ = some (.int .i64 a0_0) := (blk_cell BK80.out 0).trans rfl
             have hcz30_1 : wr.cell? ⟨gp0, 1, none⟩ = some (.int .i64 a0_1) := (blk_cell BK80.out 1).trans rfl
             have hcz30_2 : wr.cell? ⟨gp0, 2, none⟩ = some (.slice A0_2 l0_2.length c0_2) := (blk_cell BK80.out 2).trans rfl
             have hcz30_3 : wr.cell? ⟨gp0, 3, none⟩ = some (.slice A0_3 l0_3.length c0_3) := (blk_cell BK80.out 3).trans rfl
             have hfz30_0 := blk_frozen BK80.out 0
             have hfz30_1 := blk_frozen BK80.out 1
             have hfz30_2 := blk_frozen BK80.out 2
             have hfz30_3 := blk_frozen BK80.out 3
             have p119 : 0 ≤ (x5_2 : Int) := of_decide_eq_true (by first | (with_reducible assumption) | assumption)
             have q119 : x5_2 < (l0_3.length : Int) := of_decide_eq_true (by first | (with_reducible assumption) | assumption)
             obtain ⟨ad119, A119_0, c119_0, e119, hx119_0, hl119_0, hi119_0⟩ := at_L3 HR0_3.out x5_2 p119 q119
             cases e119
             replace hx119_0 := (HB.out.cell (World.block_lt_of_cell? w _ hx119_0)).trans hx119_0
             have HR119_0 := Aside0.mk hi119_0
             have HC119_0 := Aside0.mk hl119_0
             clear hi119_0 hl119_0
             replace p119 := eq_true p119
             replace q119 := eq_true q119
             go_wp2
             go_roundg k3
             case measure => have := HK1.out; have := HK2.out; have := HK3.out; omega
             case rel => exact ⟨(x3_3), (x4_3), (wrap64 (x5_2 + 1)), (by first | rfl | (simp; done) | (simp [*]; done) | (simp [wrap64]; done)), (by first | rfl | (simp; done) | (simp [*]; done) | (simp [wrap64]; done)), H', ⟨by have := HK1.out; have := HK2.out; have := HK3.out; omega⟩, ⟨by (with_reducible repeat (first | apply Kd.R_alloc | apply Kd.R_drewN | apply Kd.R_drew)); exact HO_3.out⟩, ⟨by (with_reducible repeat (first | refine blk_drewN ?_ _ | refine blk_drew ?_ | refine blk_alloc ?_ _)); exact BK80.out⟩, ⟨by repeat (first | (with_reducible first | exact HB.out | apply below_alloc | apply pw_below_drewN | apply below_drew1 | refine below_set ?_ GE80.out) | exact HB.out)⟩⟩
           ·rw [if_neg c11] at H
            exact absurd H (by simp)
          ·rw [if_neg c10] at H
           exact absurd H (by simp)
       ·rw [if_neg c8] at H
        have c8b0 : decide (x5_2 < (l0_3.length : Int)) = false := decide_eq_false c8
        clear c8
        have H' := Aside0.mk H
        clear H
        have hcz31_0 : wr.cell? ⟨gp0, 0, none⟩ = some (.int .i64 a0_0) := (blk_cell BK80.out 0).trans rfl
        have hcz31_1 : wr.cell? ⟨gp0, 1, none⟩ = some (.int .i64 a0_1) := (blk_cell BK80.out 1).trans rfl
        have hcz31_2 : wr.cell? ⟨gp0, 2, none⟩ = some (.slice A0_2 l0_2.length c0_2) := (blk_cell BK80.out 2).trans rfl
        have hcz31_3 : wr.cell? ⟨gp0, 3, none⟩ = some (.slice A0_3 l0_3.length c0_3) := (blk_cell BK80.out 3).trans rfl
        have hfz31_0 := blk_frozen BK80.out 0
        have hfz31_1 := blk_frozen BK80.out 1
        have hfz31_2 := blk_frozen BK80.out 2
        have hfz31_3 := blk_frozen BK80.out 3
        go_wp2
        go_roundg k2
        case measure => have := HK1.out; have := HK2.out; omega
        case rel => exact ⟨(x3_2), (x4_2), (by first | rfl | (simp; done) | (simp [*]; done) | (simp [wrap64]; done)), H', ⟨by have := HK1.out; have := HK2.out; omega⟩, ⟨by (with_reducible repeat (first | apply Kd.R_alloc | apply Kd.R_drewN | apply Kd.R_drew)); exact HO_3.out⟩, ⟨by (with_reducible repeat (first | refine blk_drewN ?_ _ | refine blk_drew ?_ | refine blk_alloc ?_ _)); exact BK80.out⟩, ⟨by repeat (first | (with_reducible first | exact HB.out | apply below_alloc | apply pw_below_drewN | apply below_drew1 | refine below_set ?_ GE80.out) | exact HB.out)⟩⟩
    ·replace c7 := Bool.eq_false_iff.mpr c7
     subst c7
     have H1 : (some x3_1) = some r := by rw [if_neg (show ¬ (false = true) by decide)] at H; exact H
     clear H
     have H := H1
     clear H1
     obtain rfl := Option.some.inj H
     simp only [Option.some.injEq, Prod.mk.injEq] at H
     obtain ⟨rfl⟩ := H
     go_wp2
     go_ret
     exact ⟨_, by first | rfl | (simp [errW_none, errW_some] <;> rfl) | (simp [*, errW_none, errW_some] <;> rfl), by (with_reducible repeat (first | apply Kd.R_alloc | apply Kd.R_drewN | apply Kd.R_drew)); exact HO_3.out, by repeat (first | (with_reducible first | exact HB.out | apply below_alloc | apply pw_below_drewN | apply below_drew1 | refine below_set ?_ GE80.out) | exact HB.out)⟩
 ·rw [if_neg c2] at H
  exact absurd H (by simp)
end Go.Proofs.YtnjdkhnepmmfgaaDoor.PC1
namespace Go.Proofs.YtnjdkhnepmmfgaaDoor.PC1
open Go.RowKit Go.Proofs.YtnjdkhnepmmfgaaDoorW.PrintWords Go.Proofs.YtnjdkhnepmmfgaaDoorW.PrintLast Go.Proofs.YtnjdkhnepmmfgaaDoorW.PrintMore PB1
attribute [local go_sem] max2_int min2_int max_two min_two max_three min_three max_four min_four   -- for this text's walks alone
set_option linter.unusedVariables false
set_option linter.unusedSimpArgs false
end Go.Proofs.YtnjdkhnepmmfgaaDoor.PC1
namespace Go.Proofs.YtnjdkhnepmmfgaaDoor.Lv
set_option linter.unusedVariables false
set_option linter.unusedSimpArgs false
open Go.RowKit Go.Proofs.YtnjdkhnepmmfgaaDoorW.PrintWords Go.Proofs.YtnjdkhnepmmfgaaDoorW.PrintLast Go.Proofs.YtnjdkhnepmmfgaaDoorW.PrintMore Tdy Mg Tf Go.Proofs.YtnjdkhnepmmfgaaDoor.Pure PB1 PC1
theorem rd_int {l : List Nat} {i : Nat} (hi : i < l.length) : rd (ints l) (i : Int) = (l[i] : Int) := by
 rw [rd_nat _ _ (by rw [ints_length]; exact hi), ints_get _ _ _ hi]
theorem ilen (l : List Nat) : ((ints l).length : Int) = (l.length : Int) := by rw [ints_length]
section
variable (rows : List (List Nat)) (accs : List Bool)
/-- An accepting state is k columns away, or fewer. -/
def liveK : Nat → Nat → Bool
 | 0, q => accs.getD q false
 | k + 1, q => liveK k q || (rows.getD q []).any (liveK k)
def live (q : Nat) : Bool := liveK rows accs rows.length q
end
section
variable {rows : List (List Nat)} {accs : List Bool} {wd : Nat}
theorem liveK_succ {k q : Nat} (h : liveK rows accs k q = true) : liveK rows accs (k + 1) q = true := by simp [liveK, h]
theorem liveK_le {k j q : Nat} (hj : k ≤ j) (h : liveK rows accs k q = true) : liveK rows accs j q = true := by
 induction j with
 | zero => obtain rfl : k = 0 := (by omega); exact h
 | succ j ih =>
  rcases Nat.lt_or_ge k (j + 1) with h1 | h1
  ·exact liveK_succ (ih (by omega))
  ·obtain rfl : k = j + 1 := by omega
   exact h
theorem liveK_step {k q t : Nat} (ht : t ∈ rows.getD q []) (h : liveK rows accs k t = true) : liveK rows accs (k + 1) q = true := by
 simp only [liveK, Bool.or_eq_true, List.any_eq_true]
 exact .inr ⟨t, ht, h⟩
def cnt (rows : List (List Nat)) (accs : List Bool) (k : Nat) : Nat := ((List.range rows.length).filter (liveK rows accs k)).length
theorem filter_grow {p q : Nat → Bool} (hpq : ∀ x, p x = true → q x = true) : ∀ (l : List Nat) , (l.filter p).length ≤ (l.filter q).length ∧ ((∃ x ∈ l, q x = true ∧ p x = false) → (l.filter p).length < (l.filter q).length)
 | [] => ⟨Nat.le_refl _, fun ⟨x, hx, _⟩ => by cases hx⟩
 | a :: l => by
  obtain ⟨h1, h2⟩ := filter_grow hpq l
  cases hp : p a with
  | true =>
   have hq := hpq a hp
   rw [List.filter_cons_of_pos hp, List.filter_cons_of_pos hq, List.length_cons, List.length_cons]
   refine ⟨by omega, fun ⟨x, hx, e1, e2⟩ => ?_⟩
   rcases List.mem_cons.1 hx with rfl | hx
   ·rw [hp] at e2; cases e2
   ·have := h2 ⟨x, hx, e1, e2⟩; omega
  | false =>
   rw [List.filter_cons_of_neg (by simp [hp])]
   cases hq : q a with
   | true =>
    rw [List.filter_cons_of_pos hq, List.length_cons]
    exact ⟨by omega, fun _ => by omega⟩
   | false =>
    rw [List.filter_cons_of_neg (by simp [hq])]
    refine ⟨h1, fun ⟨x, hx, e1, e2⟩ => ?_⟩
    rcases List.mem_cons.1 hx with rfl | hx
    ·rw [hq] at e1; cases e1
    ·exact h2 ⟨x, hx, e1, e2⟩
theorem stable_from {k : Nat} (hcl : ∀ q, q < rows.length → ∀ t ∈ rows.getD q [], t < rows.length) (h : ∀ q, q < rows.length → liveK rows accs (k + 1) q = liveK rows accs k q) : ∀ j q, q < rows.length → liveK rows accs (k + j) q = liveK rows accs k q
 | 0, q, hq => rfl
 | j + 1, q, hq => by
  have ih := stable_from hcl h j
  rw [← h q hq]
  show (liveK rows accs (k + j) q || (rows.getD q []).any (liveK rows accs (k + j))) = (liveK rows accs k q || (rows.getD q []).any (liveK rows accs k))
  rw [ih q hq]
  congr 1
  rw [Bool.eq_iff_iff, List.any_eq_true, List.any_eq_true]
  exact ⟨fun ⟨t, ht, e⟩ => ⟨t, ht, by rw [← ih t (hcl q hq t ht)]; exact e⟩, fun ⟨t, ht, e⟩ => ⟨t, ht, by rw [ih t (hcl q hq t ht)]; exact e⟩⟩
theorem stable_or (hcl : ∀ q, q < rows.length → ∀ t ∈ rows.getD q [], t < rows.length) : ∀ k, (∃ j, j ≤ k ∧ ∀ q, q < rows.length → liveK rows accs (j + 1) q = liveK rows accs j q) ∨ k + 1 ≤ cnt rows accs (k + 1)
 | 0 => by
  by_cases h : ∀ q, q < rows.length → liveK rows accs (0 + 1) q = liveK rows accs 0 q
  ·exact .inl ⟨0, Nat.le_refl _, h⟩
  ·refine .inr ?_
   obtain ⟨q, hq⟩ := Classical.not_forall.1 h
   obtain ⟨hq, hne⟩ := Classical.not_imp.1 hq
   have h1 : liveK rows accs 1 q = true := by
    cases h1 : liveK rows accs (0 + 1) q with
    | true => rfl
    | false =>
     cases h0 : liveK rows accs 0 q with
     | true => rw [liveK_succ h0] at h1; cases h1
     | false => rw [h1, h0] at hne; exact absurd rfl hne
   unfold cnt
   exact List.length_pos_of_mem (List.mem_filter.2 ⟨List.mem_range.2 hq, h1⟩)
 | k + 1 => by
  rcases stable_or hcl k with ⟨j, hj, h⟩ | hc
  ·exact .inl ⟨j, by omega, h⟩
  ·by_cases h : ∀ q, q < rows.length → liveK rows accs (k + 1 + 1) q = liveK rows accs (k + 1) q
   ·exact .inl ⟨k + 1, Nat.le_refl _, h⟩
   ·refine .inr ?_
    obtain ⟨q, hq⟩ := Classical.not_forall.1 h
    obtain ⟨hq, hne⟩ := Classical.not_imp.1 hq
    have h2 : liveK rows accs (k + 1) q = false := by
     cases h0 : liveK rows accs (k + 1) q with
     | true => rw [liveK_succ h0, h0] at hne; exact absurd rfl hne
     | false => rfl
    have h1 : liveK rows accs (k + 1 + 1) q = true := by
     cases h1 : liveK rows accs (k + 1 + 1) q with
     | true => rfl
     | false => rw [h1, h2] at hne; exact absurd rfl hne
    have := (filter_grow (p := liveK rows accs (k + 1)) (q := liveK rows accs (k + 1 + 1)) (fun x => liveK_succ) (List.range rows.length)).2 ⟨q, List.mem_range.2 hq, h1, h2⟩
    unfold cnt at hc ⊢
    omega
/-- As many columns as states are enough. -/
theorem live_all (hcl : ∀ q, q < rows.length → ∀ t ∈ rows.getD q [], t < rows.length) {k q : Nat} (hq : q < rows.length) (h : liveK rows accs k q = true) : live rows accs q = true := by
 have key : ∃ j, j ≤ rows.length ∧ ∀ q, q < rows.length → liveK rows accs (j + 1) q = liveK rows accs j q := by
  rcases stable_or (accs := accs) hcl rows.length with h | h
  ·exact h
  ·exfalso
   unfold cnt at h
   have := List.length_filter_le (liveK rows accs (rows.length + 1)) (List.range rows.length)
   rw [List.length_range] at this
   omega
 obtain ⟨j, hj, hs⟩ := key
 have h1 := liveK_le (k := k) (j := j + k) (by omega) h
 rw [stable_from hcl hs k q hq] at h1
 exact liveK_le hj h1
theorem live_step (hcl : ∀ q, q < rows.length → ∀ t ∈ rows.getD q [], t < rows.length) {q t : Nat} (hq : q < rows.length) (ht : t ∈ rows.getD q []) (h : live rows accs t = true) : live rows accs q = true := live_all hcl hq (liveK_step ht h)
/-! ### far -/
theorem rd_rowC {q : Nat} (hq : q < rows.length) : PC1.rd_L1 (rows.map ints) (q : Int) = ints rows[q] := by simp [PC1.rd_L1, List.getD_eq_getElem?_getD, hq]
theorem rd_rowD {q : Nat} (hq : q < rows.length) : PC1.rd_L3 (rows.map ints) (q : Int) = ints rows[q] := by simp [PC1.rd_L3, List.getD_eq_getElem?_getD, hq]
def dist (rows : List (List Nat)) (accs : List Bool) : Nat → Nat → Int
 | 0, q => if liveK rows accs 0 q then 0 else -1
 | k + 1, q => if 0 ≤ dist rows accs k q then dist rows accs k q else if liveK rows accs (k + 1) q then ((k + 1 : Nat) : Int) else -1
theorem dist_bd : ∀ k q, -1 ≤ dist rows accs k q ∧ dist rows accs k q ≤ (k : Int)
 | 0, q => by unfold dist; split <;> omega
 | k + 1, q => by
  have := dist_bd k q
  unfold dist
  split
  ·omega
  ·split <;> omega
theorem dist_live : ∀ k q, 0 ≤ dist rows accs k q ↔ liveK rows accs k q = true
 | 0, q => by unfold dist; split <;> simp_all
 | k + 1, q => by
  have ih := dist_live k q
  unfold dist
  split
  ·rename_i h
   exact ⟨fun _ => liveK_succ (ih.1 h), fun _ => h⟩
  ·split
   ·rename_i h; exact ⟨fun _ => h, fun _ => by omega⟩
   ·rename_i h; exact ⟨fun h2 => by omega, fun h2 => absurd h2 h⟩
theorem dist_at : ∀ k q (j : Nat), dist rows accs k q = (j : Int) → liveK rows accs j q = true
 | 0, q, j, h => by
  have := dist_bd (rows := rows) (accs := accs) 0 q
  obtain rfl : j = 0 := by omega
  exact (dist_live 0 q).1 (by omega)
 | k + 1, q, j, h => by
  unfold dist at h
  split at h
  ·exact dist_at k q j h
  ·split at h
   ·obtain rfl : k + 1 = j := by omega
    assumption
   ·omega
/-- Whether the round number s + 1 reaches state i. -/
theorem dist_hit {s i t : Nat} (hni : ¬ 0 ≤ dist rows accs s i) (ht : t ∈ rows.getD i []) (v : Int) (hv : v = dist rows accs (s + 1) t ∨ v = dist rows accs s t) : v = (s : Int) ↔ liveK rows accs s t = true := by
 constructor
 ·rintro rfl
  rcases hv with hv | hv
  ·exact dist_at _ _ _ hv.symm
  ·exact dist_at _ _ _ hv.symm
 ·intro h
  have h0 := (dist_live s t).2 h
  have hb := dist_bd (rows := rows) (accs := accs) s t
  have e : dist rows accs (s + 1) t = dist rows accs s t := by
   show (if 0 ≤ dist rows accs s t then dist rows accs s t else _) = _
   rw [if_pos h0]
  have e2 : v = dist rows accs s t := by rcases hv with hv | hv <;> rw [hv]; exact e
  rw [e2]
  obtain ⟨j, hj⟩ : ∃ j : Nat, dist rows accs s t = (j : Int) := ⟨(dist rows accs s t).toNat, by omega⟩
  rw [hj]
  rcases Nat.lt_or_ge j s with h1 | h1
  ·exfalso
   apply hni
   refine (dist_live s i).2 (liveK_le (k := j + 1) (by omega) (liveK_step ht (dist_at _ _ _ hj)))
  ·omega
/-- The numbers behind round s, for the first i states behind round s + 1. -/
def mixL (rows : List (List Nat)) (accs : List Bool) (s i : Nat) : List Int := (List.range rows.length).map (fun q => if q < i then dist rows accs (s + 1) q else dist rows accs s q)
def distL (rows : List (List Nat)) (accs : List Bool) (s : Nat) : List Int := (List.range rows.length).map (dist rows accs s)
theorem mixL_len {s i : Nat} : (mixL rows accs s i).length = rows.length := by simp [mixL]
theorem mixL_at {s i q : Nat} (hq : q < rows.length) : rd (mixL rows accs s i) (q : Int) = if q < i then dist rows accs (s + 1) q else dist rows accs s q := by
 rw [rd_nat _ _ (by rw [mixL_len]; exact hq)]
 simp [mixL]
theorem mixL_zero {s : Nat} : mixL rows accs s 0 = distL rows accs s := by simp [mixL, distL]
theorem mixL_all {s : Nat} : mixL rows accs s rows.length = distL rows accs (s + 1) := by
 unfold mixL distL
 exact List.map_congr_left (fun q hq => by rw [if_pos (List.mem_range.1 hq)])
theorem mixL_set {s i : Nat} (hi : i < rows.length) {v : Int} (hv : v = dist rows accs (s + 1) i) : (mixL rows accs s i).set i v = mixL rows accs s (i + 1) := by
 apply List.ext_getElem (by rw [List.length_set, mixL_len, mixL_len])
 intro q h1 h2
 rw [List.length_set, mixL_len] at h1
 by_cases e : q = i
 ·subst e
  rw [List.getElem_set_self]
  simp [mixL, hv]
 ·rw [List.getElem_set_ne (fun e' => e e'.symm)]
  simp only [mixL, List.getElem_map, List.getElem_range]
  by_cases h3 : q < i
  ·rw [if_pos h3, if_pos (by omega)]
  ·rw [if_neg h3, if_neg (by omega)]
theorem mixL_skip {s i : Nat} (hi : i < rows.length) (h : dist rows accs s i = dist rows accs (s + 1) i) : mixL rows accs s i = mixL rows accs s (i + 1) := by
 have := mixL_set (accs := accs) (s := s) hi h
 rw [← this]
 apply List.ext_getElem (by rw [List.length_set])
 intro q h1 h2
 rw [List.length_set] at h2
 by_cases e : q = i
 ·subst e
  rw [List.getElem_set_self]
  simp [mixL]
 ·rw [List.getElem_set_ne (fun e' => e e'.symm)]
theorem far_row (hcl : Closed wd rows accs) (hwd : wd ≤ 30) (hn : rows.length ≤ 1000000) (a0 a1 : Int) (s i : Nat) (hi : i < rows.length) (hs : s < rows.length) (hneg : ¬ 0 ≤ dist rows accs s i) (r : List Int)
  (hend : Ev (fun k => impl_machine_far.l2 k (mixL rows accs s (i + 1)) ((s + 1 : Nat) : Int) (rows.map ints) (rows.length : Int) ((i : Int) + 1) a0 a1 accs (rows.map ints)) r) :
  ∀ d c, d + c = rows[i].length → (∀ x, x < c → ∀ h : x < rows[i].length, liveK rows accs s rows[i][x] = false) →
   Ev (fun k => impl_machine_far.l3 k (mixL rows accs s i) ((s + 1 : Nat) : Int) (i : Int) (rows.map ints) (rows.length : Int) (i : Int) (ints rows[i]) (rows[i].length : Int) (c : Int) a0 a1 accs (rows.map ints)) r := by
 have hgd : rows.getD i [] = rows[i] := by simp [List.getD_eq_getElem?_getD, hi]
 have hsucc : dist rows accs (s + 1) i = if liveK rows accs (s + 1) i then ((s + 1 : Nat) : Int) else -1 := by
  show (if 0 ≤ dist rows accs s i then _ else _) = _
  rw [if_neg hneg]
 intro d
 induction d with
 | zero =>
  intro c hc hno
  obtain rfl : c = rows[i].length := by omega
  have hl : liveK rows accs (s + 1) i = false := by
   cases h : liveK rows accs (s + 1) i with
   | false => rfl
   | true =>
    simp only [liveK, Bool.or_eq_true, List.any_eq_true, hgd] at h
    rcases h with h | ⟨t, ht, e⟩
    ·exact absurd ((dist_live s i).2 h) hneg
    ·obtain ⟨x, hx, rfl⟩ := List.getElem_of_mem ht
     rw [hno x hx hx] at e
     cases e
  have hb := dist_bd (rows := rows) (accs := accs) s i
  rw [hl] at hsucc
  rw [← mixL_skip hi (by rw [hsucc]; simp; omega)] at hend
  refine ev_step (fun k => ?_) hend
  simp only [impl_machine_far.l3]
  rw [if_neg (by omega), wrap_up (by omega)]
 | succ d ih =>
  intro c hc hno
  have hcr : c < rows[i].length := by omega
  have hwi := hcl.wide _ (List.getElem_mem hi)
  have htn : rows[i][c] < rows.length := hcl.lt _ (List.getElem_mem hi) _ (List.getElem_mem hcr)
  have htm : rows[i][c] ∈ rows.getD i [] := by rw [hgd]; exact List.getElem_mem hcr
  have hw : wrap64 (((s + 1 : Nat) : Int) - 1) = (s : Int) := by rw [wrap_id (by omega) (by omega)]; omega
  have hv := dist_hit (accs := accs) hneg htm (rd (mixL rows accs s i) (rows[i][c] : Int)) (by rw [mixL_at htn]; split <;> simp)
  have hml : ((mixL rows accs s i).length : Int) = (rows.length : Int) := by rw [mixL_len]
  cases hh : liveK rows accs s rows[i][c] with
  | true =>
   have h1 : liveK rows accs (s + 1) i = true := liveK_step htm hh
   rw [h1] at hsucc
   rw [← mixL_set (v := ((s + 1 : Nat) : Int)) hi (by rw [hsucc]; simp)] at hend
   refine ev_step (fun k => ?_) hend
   simp only [impl_machine_far.l3]
   rw [if_pos (by omega), if_pos (by omega), if_pos (by rw [ilen]; omega), rd_int hcr, if_pos (by omega), if_pos (by rw [hml]; omega), hw, if_pos (hv.2 hh), if_pos (by omega), if_pos (by rw [hml]; omega), wrap_up (by omega), Int.toNat_natCast]
  | false =>
   have hne : ¬ rd (mixL rows accs s i) (rows[i][c] : Int) = (s : Int) := fun e => by rw [hv.1 e] at hh; cases hh
   have := ih (c + 1) (by omega) (fun x hx hxl => by
    by_cases e : x = c
    ·subst e; exact hh
    ·exact hno x (by omega) hxl)
   refine ev_step (f := fun k => impl_machine_far.l3 k (mixL rows accs s i) ((s + 1 : Nat) : Int) (i : Int) (rows.map ints) (rows.length : Int) (i : Int) (ints rows[i]) (rows[i].length : Int) ((c : Int) + 1) a0 a1 accs (rows.map ints)) (fun k => ?_) (by simpa using this)
   simp only [impl_machine_far.l3]
   rw [if_pos (by omega), if_pos (by omega), if_pos (by rw [ilen]; omega), rd_int hcr, if_pos (by omega), if_pos (by rw [hml]; omega), hw, if_neg hne, wrap_up (by omega)]
theorem far_round (hcl : Closed wd rows accs) (hwd : wd ≤ 30) (hn : rows.length ≤ 1000000) (a0 a1 : Int) (s : Nat) (hs : s < rows.length) (r : List Int)
  (hend : Ev (fun k => impl_machine_far.l1 k (distL rows accs (s + 1)) ((s : Int) + 2) a0 a1 accs (rows.map ints)) r) :
  ∀ d i, d + i = rows.length → Ev (fun k => impl_machine_far.l2 k (mixL rows accs s i) ((s + 1 : Nat) : Int) (rows.map ints) (rows.length : Int) (i : Int) a0 a1 accs (rows.map ints)) r := by
 intro d
 have hl : ((rows.map ints).length : Int) = (rows.length : Int) := by rw [List.length_map]
 induction d with
 | zero =>
  intro i hi
  obtain rfl : i = rows.length := by omega
  rw [mixL_all]
  refine ev_step (fun k => ?_) hend
  simp only [impl_machine_far.l2]
  have e : wrap64 (((s + 1 : Nat) : Int) + 1) = (s : Int) + 2 := by rw [wrap_id (by omega) (by omega)]; omega
  rw [if_neg (by omega), e]
 | succ d ih =>
  intro i hi
  have hir : i < rows.length := by omega
  have hml : ((mixL rows accs s i).length : Int) = (rows.length : Int) := by rw [mixL_len]
  have hnext := ih (i + 1) (by omega)
  have hrd : rd (mixL rows accs s i) (i : Int) = dist rows accs s i := by rw [mixL_at hir, if_neg (by omega)]
  by_cases h0 : 0 ≤ dist rows accs s i
  ·have hd : dist rows accs s i = dist rows accs (s + 1) i := by
    show _ = (if 0 ≤ dist rows accs s i then _ else _)
    rw [if_pos h0]
   refine ev_step (f := fun k => impl_machine_far.l2 k (mixL rows accs s i) ((s + 1 : Nat) : Int) (rows.map ints) (rows.length : Int) ((i : Int) + 1) a0 a1 accs (rows.map ints)) (fun k => ?_) (by rw [mixL_skip hir hd]; simpa using hnext)
   simp only [impl_machine_far.l2]
   rw [if_pos (by omega), if_pos (by omega), if_pos (by rw [hl]; omega), if_pos (by rw [hml]; omega), hrd, if_pos h0, wrap_up (by omega)]
  ·have := far_row hcl hwd hn a0 a1 s i hir hs h0 r (by simpa using hnext) rows[i].length 0 (by omega) (fun x hx => by omega)
   refine ev_step (fun k => ?_) this
   simp only [impl_machine_far.l2]
   rw [if_pos (by omega), if_pos (by omega), if_pos (by rw [hl]; omega), if_pos (by rw [hml]; omega), hrd, if_neg h0, rd_rowC hir, ints_length]
   rfl
theorem far_steps (hcl : Closed wd rows accs) (hwd : wd ≤ 30) (hn : rows.length ≤ 1000000) (a0 a1 : Int) : ∀ d s, d + s = rows.length → Ev (fun k => impl_machine_far.l1 k (distL rows accs s) ((s : Int) + 1) a0 a1 accs (rows.map ints)) (distL rows accs rows.length) := by
 intro d
 have hdl : ∀ s, ((distL rows accs s).length : Int) = (rows.length : Int) := fun s => by simp [distL]
 induction d with
 | zero =>
  intro s hs
  obtain rfl : s = rows.length := by omega
  refine ev_const (fun k => ?_)
  simp only [impl_machine_far.l1]
  rw [if_neg (by rw [hdl]; omega)]
 | succ d ih =>
  intro s hs
  have h1 := ih (s + 1) (by omega)
  have e : (((s + 1 : Nat) : Int)) + 1 = (s : Int) + 2 := by omega
  rw [e] at h1
  have h2 := far_round hcl hwd hn a0 a1 s (by omega) _ h1 rows.length 0 (by omega)
  rw [mixL_zero] at h2
  refine ev_step (fun k => ?_) h2
  simp only [impl_machine_far.l1]
  rw [if_pos (by rw [hdl]; omega), List.length_map]
  rfl
theorem far_ev (hcl : Closed wd rows accs) (hwd : wd ≤ 30) (hn : rows.length ≤ 1000000) (a0 a1 : Int) : Ev (fun k => impl_machine_far.f k a0 a1 accs (rows.map ints)) (distL rows accs rows.length) := by
 have hlen := hcl.len
 have h0 := far_steps hcl hwd hn a0 a1 rows.length 0 (by omega)
 have hs : ∀ i, i ≤ accs.length → ((accs.take i).map (fun b => if b = true then (0 : Int) else -1) ++ List.replicate (accs.length - i) 0).length = accs.length := fun i hi => by simp; omega
 have h1 := ev_up (fun k i x => impl_machine_far.l0 k x accs (accs.length : Int) i a0 a1 accs (rows.map ints)) accs.length (fun i => (accs.take i).map (fun b => if b = true then (0 : Int) else -1) ++ List.replicate (accs.length - i) 0) (distL rows accs rows.length) ?_ ?_
 ·refine Ev.congr (fun k => ?_) h1
  unfold impl_machine_far.f
  rw [if_pos (by omega), if_pos (by omega), Int.toNat_natCast]
  simp
 ·refine ev_step (f := fun k => impl_machine_far.l1 k (distL rows accs 0) (((0 : Nat) : Int) + 1) a0 a1 accs (rows.map ints)) (fun k => ?_) h0
  simp only [impl_machine_far.l0]
  have e : (accs.take accs.length).map (fun b => if b = true then (0 : Int) else -1) ++ List.replicate (accs.length - accs.length) 0 = distL rows accs 0 := by
   rw [List.take_length, Nat.sub_self, List.replicate_zero, List.append_nil]
   apply List.ext_getElem (by simp [distL, hlen])
   intro q hq1 hq2
   rw [List.length_map] at hq1
   simp [distL, dist, liveK, List.getD_eq_getElem?_getD, hq1]
  rw [if_neg (by omega), e]
  rfl
 ·intro i hi h
  have hset : ((accs.take i).map (fun b => if b = true then (0 : Int) else -1) ++ List.replicate (accs.length - i) 0).set i (if accs[i] = true then 0 else -1) = (accs.take (i + 1)).map (fun b => if b = true then (0 : Int) else -1) ++ List.replicate (accs.length - (i + 1)) 0 := by
   have e3 : accs.length - i = (accs.length - (i + 1)) + 1 := by omega
   have hl : ((accs.take i).map (fun b => if b = true then (0 : Int) else -1)).length = i := by rw [List.length_map, List.length_take]; omega
   rw [e3, List.replicate_succ, List.set_append_right _ _ (by omega), hl, Nat.sub_self, List.set_cons_zero, List.take_succ_eq_append_getElem hi, List.map_append, List.append_assoc]
   rfl
  refine ev_step (fun k => ?_) h
  simp only [impl_machine_far.l0]
  rw [if_pos (by omega), if_pos (by omega), if_pos (by omega), rdOf_nat false accs i hi, ← hset]
  cases ha : accs[i] with
  | true =>
   rw [if_pos rfl, wrap_up (by omega)]
   congr 1
   apply List.ext_getElem (by rw [List.length_set])
   intro q h1 h2
   by_cases e : q = i
   ·subst e
    have hl : ((accs.take q).map (fun b => if b = true then (0 : Int) else -1)).length = q := by rw [List.length_map, List.length_take]; omega
    rw [List.getElem_set_self, List.getElem_append_right (by omega)]
    simp
   ·rw [List.getElem_set_ne (fun e' => e e'.symm)]
  | false =>
   rw [if_neg (by simp), if_pos (by rw [hs i (by omega)]; omega), wrap_up (by omega), Int.toNat_natCast]
   rfl
/-! ### l07Live -/
def stepC (q t : Nat) (p : List Bool × Bool) : List Bool × Bool := if p.1.getD t false then (if p.1.getD q false then p else (p.1.set q true, true)) else p
def rowS (q : Nat) : List Nat → List Bool × Bool → List Bool × Bool
 | [], p => p
 | t :: ts, p => rowS q ts (stepC q t p)
def passS (rows : List (List Nat)) : List Nat → List Bool × Bool → List Bool × Bool
 | [], p => p
 | q :: qs, p => passS rows qs (rowS q (rows.getD q []) p)
def fixS (rows : List (List Nat)) : Nat → List Bool → Option (List Bool)
 | 0, _ => none
 | f + 1, L => if (passS rows (List.range rows.length) (L, false)).2 then fixS rows f (passS rows (List.range rows.length) (L, false)).1 else some (passS rows (List.range rows.length) (L, false)).1
structure Snd (rows : List (List Nat)) (accs : List Bool) (L : List Bool) : Prop where
 len : L.length = rows.length
 acc : ∀ q, q < rows.length → accs.getD q false = true → L.getD q false = true
 snd : ∀ q, q < rows.length → L.getD q false = true → live rows accs q = true
def nT (L : List Bool) : Nat := (L.filter id).length
theorem nT_set : ∀ (L : List Bool) (q : Nat), q < L.length → L.getD q false = false → nT (L.set q true) = nT L + 1
 | [], q, h, _ => by simp at h
 | a :: L, 0, _, h => by
  obtain rfl : a = false := by simpa using h
  simp [nT]
 | a :: L, q + 1, hq, h => by
  have := nT_set L q (by simpa using hq) (by simpa using h)
  unfold nT at this ⊢
  cases a <;> simp_all
theorem getD_set (L : List Bool) (q x : Nat) (hq : q < L.length) : (L.set q true).getD x false = if x = q then true else L.getD x false := by
 by_cases e : x = q
 ·subst e
  simp [List.getD_eq_getElem?_getD, hq]
 ·rw [List.getD_eq_getElem?_getD, List.getElem?_set_ne (fun e' => e e'.symm), if_neg e, List.getD_eq_getElem?_getD]
section
variable {rows : List (List Nat)} {accs : List Bool} {wd : Nat}
theorem stepC_spec (hcl : ∀ q, q < rows.length → ∀ t ∈ rows.getD q [], t < rows.length) {q t : Nat} (hq : q < rows.length) (ht : t ∈ rows.getD q []) {p : List Bool × Bool} (h : Snd rows accs p.1) :
  Snd rows accs (stepC q t p).1 ∧ nT p.1 ≤ nT (stepC q t p).1 ∧ ((stepC q t p).2 = true → p.2 = true ∨ nT p.1 < nT (stepC q t p).1) ∧ ((stepC q t p).2 = false → stepC q t p = p ∧ (p.1.getD t false = true → p.1.getD q false = true)) := by
 unfold stepC
 split
 ·rename_i h1
  split
  ·rename_i h2
   exact ⟨h, Nat.le_refl _, .inl, fun _ => ⟨rfl, fun _ => h2⟩⟩
  ·rename_i h2
   have hql : q < p.1.length := by rw [h.len]; exact hq
   have h2' : p.1.getD q false = false := by simpa using h2
   refine ⟨⟨by rw [List.length_set]; exact h.len, fun x hx hax => ?_, fun x hx hlx => ?_⟩, by simp only [nT_set _ _ hql h2']; omega, fun _ => .inr (by simp only [nT_set _ _ hql h2']; omega), fun e => by cases e⟩
   ·simp only [getD_set _ _ _ hql]
    split
    ·rfl
    ·exact h.acc x hx hax
   ·simp only [getD_set _ _ _ hql] at hlx
    split at hlx
    ·rename_i e
     rw [e]
     exact live_step hcl hq ht (h.snd t (hcl q hq t ht) h1)
    ·exact h.snd x hx hlx
 ·rename_i h1
  exact ⟨h, Nat.le_refl _, .inl, fun _ => ⟨rfl, fun e => absurd e h1⟩⟩
theorem rowS_spec (hcl : ∀ q, q < rows.length → ∀ t ∈ rows.getD q [], t < rows.length) {q : Nat} (hq : q < rows.length) : ∀ (ts : List Nat) (p : List Bool × Bool), (∀ t ∈ ts, t ∈ rows.getD q []) → Snd rows accs p.1 →
  Snd rows accs (rowS q ts p).1 ∧ nT p.1 ≤ nT (rowS q ts p).1 ∧ ((rowS q ts p).2 = true → p.2 = true ∨ nT p.1 < nT (rowS q ts p).1) ∧ ((rowS q ts p).2 = false → rowS q ts p = p ∧ ∀ t ∈ ts, p.1.getD t false = true → p.1.getD q false = true)
 | [], p, _, h => ⟨h, Nat.le_refl _, .inl, fun _ => ⟨rfl, fun t ht => by cases ht⟩⟩
 | t :: ts, p, hts, h => by
  obtain ⟨a1, a2, a3, a4⟩ := stepC_spec hcl hq (hts t (List.mem_cons_self ..)) h
  obtain ⟨b1, b2, b3, b4⟩ := rowS_spec hcl hq ts (stepC q t p) (fun x hx => hts x (List.mem_cons_of_mem _ hx)) a1
  have e : rowS q (t :: ts) p = rowS q ts (stepC q t p) := rfl
  rw [e]
  refine ⟨b1, by omega, fun h1 => ?_, fun h1 => ?_⟩
  ·rcases b3 h1 with h2 | h2
   ·rcases a3 h2 with h3 | h3
    ·exact .inl h3
    ·exact .inr (by omega)
   ·exact .inr (by omega)
  ·obtain ⟨c1, c2⟩ := b4 h1
   rw [c1] at h1
   obtain ⟨d1, d2⟩ := a4 h1
   rw [d1] at c1 c2
   rw [d1]
   refine ⟨c1, fun x hx => ?_⟩
   rcases List.mem_cons.1 hx with rfl | hx
   ·exact d2
   ·exact c2 x hx
theorem passS_spec (hcl : ∀ q, q < rows.length → ∀ t ∈ rows.getD q [], t < rows.length) : ∀ (qs : List Nat) (p : List Bool × Bool), (∀ q ∈ qs, q < rows.length) → Snd rows accs p.1 →
  Snd rows accs (passS rows qs p).1 ∧ nT p.1 ≤ nT (passS rows qs p).1 ∧ ((passS rows qs p).2 = true → p.2 = true ∨ nT p.1 < nT (passS rows qs p).1) ∧ ((passS rows qs p).2 = false → passS rows qs p = p ∧ ∀ q ∈ qs, ∀ t ∈ rows.getD q [], p.1.getD t false = true → p.1.getD q false = true)
 | [], p, _, h => ⟨h, Nat.le_refl _, .inl, fun _ => ⟨rfl, fun t ht => by cases ht⟩⟩
 | q :: qs, p, hqs, h => by
  obtain ⟨a1, a2, a3, a4⟩ := rowS_spec hcl (hqs q (List.mem_cons_self ..)) (rows.getD q []) p (fun t ht => ht) h
  obtain ⟨b1, b2, b3, b4⟩ := passS_spec hcl qs (rowS q (rows.getD q []) p) (fun x hx => hqs x (List.mem_cons_of_mem _ hx)) a1
  have e : passS rows (q :: qs) p = passS rows qs (rowS q (rows.getD q []) p) := rfl
  rw [e]
  refine ⟨b1, by omega, fun h1 => ?_, fun h1 => ?_⟩
  ·rcases b3 h1 with h2 | h2
   ·rcases a3 h2 with h3 | h3
    ·exact .inl h3
    ·exact .inr (by omega)
   ·exact .inr (by omega)
  ·obtain ⟨c1, c2⟩ := b4 h1
   rw [c1] at h1
   obtain ⟨d1, d2⟩ := a4 h1
   rw [d1] at c1 c2
   rw [d1]
   refine ⟨c1, fun x hx => ?_⟩
   rcases List.mem_cons.1 hx with rfl | hx
   ·exact d2
   ·exact c2 x hx
theorem nT_le (L : List Bool) : nT L ≤ L.length := List.length_filter_le ..
theorem fixS_spec (hcl : ∀ q, q < rows.length → ∀ t ∈ rows.getD q [], t < rows.length) : ∀ (f : Nat) (L : List Bool), Snd rows accs L → rows.length < f + nT L → ∃ R, fixS rows f L = some R ∧ Snd rows accs R ∧ ∀ q, q < rows.length → ∀ t ∈ rows.getD q [], R.getD t false = true → R.getD q false = true
 | 0, L, h, hf => by have := nT_le L; have := h.len; omega
 | f + 1, L, h, hf => by
  obtain ⟨a1, a2, a3, a4⟩ := passS_spec hcl (List.range rows.length) (L, false) (fun q hq => List.mem_range.1 hq) h
  unfold fixS
  split
  ·rename_i h1
   rcases a3 h1 with h2 | h2
   ·cases h2
   ·exact fixS_spec hcl f _ a1 (by simp only at h2; omega)
  ·rename_i h1
   obtain ⟨c1, c2⟩ := a4 (by simpa using h1)
   refine ⟨_, rfl, a1, fun q hq => ?_⟩
   rw [c1]
   exact c2 q (List.mem_range.2 hq)
theorem fixS_live (hcl : ∀ q, q < rows.length → ∀ t ∈ rows.getD q [], t < rows.length) {R : List Bool} (h : Snd rows accs R) (hc : ∀ q, q < rows.length → ∀ t ∈ rows.getD q [], R.getD t false = true → R.getD q false = true) : R = (List.range rows.length).map (live rows accs) := by
 have key : ∀ k q, q < rows.length → liveK rows accs k q = true → R.getD q false = true := by
  intro k
  induction k with
  | zero => intro q hq e; exact h.acc q hq e
  | succ k ih =>
   intro q hq e
   simp only [liveK, Bool.or_eq_true, List.any_eq_true] at e
   rcases e with e | ⟨t, ht, e⟩
   ·exact ih q hq e
   ·exact hc q hq t ht (ih t (hcl q hq t ht) e)
 apply List.ext_getElem (by rw [h.len]; simp)
 intro q h1 h2
 have hq : q < rows.length := by rw [h.len] at h1; exact h1
 have e : R.getD q false = R[q] := by simp [List.getD_eq_getElem?_getD, h1]
 rw [List.getElem_map, List.getElem_range, ← e, Bool.eq_iff_iff]
 exact ⟨h.snd q hq, key _ q hq⟩
theorem live_row (hcl : Closed wd rows accs) (hwd : wd ≤ 30) (hn : rows.length ≤ 1000000) (a0 a1 : Int) (q : Nat) (hq : q < rows.length) (r : List Bool) : ∀ d c (p : List Bool × Bool), d + c = rows[q].length → p.1.length = rows.length →
  Ev (fun k => spec_l07Live.l1 k (rowS q (rows[q].drop c) p).1 (rowS q (rows[q].drop c) p).2 ((q : Int) + 1) a0 a1 accs (rows.map ints)) r → Ev (fun k => spec_l07Live.l2 k p.1 p.2 (q : Int) (c : Int) a0 a1 accs (rows.map ints)) r := by
 have hl : ((rows.map ints).length : Int) = (rows.length : Int) := by rw [List.length_map]
 have hwi := hcl.wide _ (List.getElem_mem hq)
 intro d
 induction d with
 | zero =>
  intro c p hc hpl h
  obtain rfl : c = rows[q].length := by omega
  rw [List.drop_length] at h
  refine ev_step (fun k => ?_) h
  simp only [spec_l07Live.l2]
  rw [if_pos (by omega), if_pos (by rw [hl]; omega), rd_rowD hq, if_neg (by rw [ilen]; omega), wrap_up (by omega)]
  rfl
 | succ d ih =>
  intro c p hc hpl h
  have hcr : c < rows[q].length := by omega
  have htn : rows[q][c] < rows.length := hcl.lt _ (List.getElem_mem hq) _ (List.getElem_mem hcr)
  have hdr : rows[q].drop c = rows[q][c] :: rows[q].drop (c + 1) := List.drop_eq_getElem_cons hcr
  rw [hdr] at h
  have hsl : (stepC q rows[q][c] p).1.length = rows.length := by
   unfold stepC
   split
   ·split
    ·exact hpl
    ·rw [List.length_set]; exact hpl
   ·exact hpl
  have h2 := ih (c + 1) (stepC q rows[q][c] p) (by omega) hsl h
  have et : rdOf false p.1 (rows[q][c] : Int) = p.1.getD rows[q][c] false := by unfold rdOf; simp
  have eq_ : rdOf false p.1 (q : Int) = p.1.getD q false := by unfold rdOf; simp
  have hpl2 : ((p.1.length : Nat) : Int) = (rows.length : Int) := by rw [hpl]
  have e1 : ((c + 1 : Nat) : Int) = (c : Int) + 1 := by omega
  rw [e1] at h2
  refine ev_step (fun k => ?_) h2
  simp only [spec_l07Live.l2]
  rw [if_pos (by omega), if_pos (by rw [hl]; omega), rd_rowD hq, if_pos (by rw [ilen]; omega), if_pos (by omega), rd_int hcr, if_pos (by omega), if_pos (by rw [hpl2]; omega), et, wrap_up (by omega), eq_, Int.toNat_natCast]
  unfold stepC
  by_cases h3 : p.1.getD rows[q][c] false = true
  ·rw [if_pos h3, if_pos h3, if_pos (by rw [hpl2]; omega)]
   by_cases h4 : p.1.getD q false = true
   ·rw [if_pos h4, if_pos h4]
   ·rw [if_neg h4, if_neg h4]
  ·rw [if_neg h3, if_neg h3]
theorem rowS_len (q : Nat) : ∀ (ts : List Nat) (p : List Bool × Bool), (rowS q ts p).1.length = p.1.length
 | [], p => rfl
 | t :: ts, p => by
  show (rowS q ts (stepC q t p)).1.length = _
  rw [rowS_len q ts]
  unfold stepC
  split
  ·split
   ·rfl
   ·rw [List.length_set]
  ·rfl
theorem live_pass (hcl : Closed wd rows accs) (hwd : wd ≤ 30) (hn : rows.length ≤ 1000000) (a0 a1 : Int) (r : List Bool) : ∀ d q (p : List Bool × Bool), d + q = rows.length → p.1.length = rows.length →
  Ev (fun k => spec_l07Live.l0 k (passS rows ((List.range rows.length).drop q) p).1 (passS rows ((List.range rows.length).drop q) p).2 a0 a1 accs (rows.map ints)) r → Ev (fun k => spec_l07Live.l1 k p.1 p.2 (q : Int) a0 a1 accs (rows.map ints)) r := by
 have hl : ((rows.map ints).length : Int) = (rows.length : Int) := by rw [List.length_map]
 intro d
 induction d with
 | zero =>
  intro q p hd hpl h
  obtain rfl : q = rows.length := by omega
  rw [List.drop_of_length_le (by simp)] at h
  refine ev_step (fun k => ?_) h
  simp only [spec_l07Live.l1]
  rw [if_neg (by rw [hl]; omega)]
  rfl
 | succ d ih =>
  intro q p hd hpl h
  have hq : q < rows.length := by omega
  have hdr : (List.range rows.length).drop q = q :: (List.range rows.length).drop (q + 1) := by
   rw [List.drop_eq_getElem_cons (by simpa using hq)]; simp
  rw [hdr] at h
  have hg : rows.getD q [] = rows[q] := by simp [List.getD_eq_getElem?_getD, hq]
  have h' : Ev (fun k => spec_l07Live.l0 k (passS rows ((List.range rows.length).drop (q + 1)) (rowS q rows[q] p)).1 (passS rows ((List.range rows.length).drop (q + 1)) (rowS q rows[q] p)).2 a0 a1 accs (rows.map ints)) r := by rw [← hg]; exact h
  have h2 := ih (q + 1) (rowS q rows[q] p) (by omega) (by rw [rowS_len]; exact hpl) h'
  have h3 := live_row hcl hwd hn a0 a1 q hq r rows[q].length 0 p (by omega) hpl (by simpa using h2)
  refine ev_step (fun k => ?_) h3
  simp only [spec_l07Live.l1]
  rw [if_pos (by rw [hl]; omega)]
  rfl
theorem passS_len : ∀ (qs : List Nat) (p : List Bool × Bool), (passS rows qs p).1.length = p.1.length
 | [], p => rfl
 | q :: qs, p => by
  show (passS rows qs (rowS q (rows.getD q []) p)).1.length = _
  rw [passS_len qs, rowS_len]
theorem live_fix (hcl : Closed wd rows accs) (hwd : wd ≤ 30) (hn : rows.length ≤ 1000000) (a0 a1 : Int) : ∀ (f : Nat) (L R : List Bool), L.length = rows.length → fixS rows f L = some R → Ev (fun k => spec_l07Live.l0 k L true a0 a1 accs (rows.map ints)) R
 | 0, _, _, _, h => by simp [fixS] at h
 | f + 1, L, R, hL, h => by
  refine ev_step (f := fun k => spec_l07Live.l1 k L false 0 a0 a1 accs (rows.map ints)) (fun k => ?_) (live_pass hcl hwd hn a0 a1 R rows.length 0 (L, false) (by omega) hL ?_)
  ·simp only [spec_l07Live.l0]
   rw [if_pos trivial]
  ·rw [List.drop_zero]
   unfold fixS at h
   split at h
   ·rename_i h1
    rw [h1]
    exact live_fix hcl hwd hn a0 a1 f _ R (by rw [passS_len]; exact hL) h
   ·rename_i h1
    have e := Option.some.inj h
    have h2 : (passS rows (List.range rows.length) (L, false)).2 = false := by simpa using h1
    rw [h2, e]
    refine ev_const (fun k => ?_)
    simp only [spec_l07Live.l0]
    rw [if_neg (by simp)]
theorem live_ev (hcl : Closed wd rows accs) (hwd : wd ≤ 30) (hn : rows.length ≤ 1000000) (a0 a1 : Int) : Ev (fun k => spec_l07Live.f k a0 a1 accs (rows.map ints)) ((List.range rows.length).map (live rows accs)) := by
 have hlen := hcl.len
 have hc : ∀ q, q < rows.length → ∀ t ∈ rows.getD q [], t < rows.length := fun q hq t ht => by
  have e : rows.getD q [] = rows[q] := by simp [List.getD_eq_getElem?_getD, hq]
  rw [e] at ht
  exact hcl.lt _ (List.getElem_mem hq) _ ht
 have hs : Snd rows accs accs := ⟨hlen.symm, fun q _ h => h, fun q hq h => live_all hc hq (k := 0) h⟩
 obtain ⟨R, h1, h2, h3⟩ := fixS_spec hc (rows.length + 1) accs hs (by omega)
 have hR := fixS_live hc h2 h3
 rw [hR] at h1
 have := live_fix hcl hwd hn a0 a1 _ _ _ hlen.symm h1
 refine Ev.congr (fun k => ?_) this
 unfold spec_l07Live.f
 simp only [Option.bind_some, List.nil_append, List.length_nil]
 rw [if_pos (by omega)]
end
end
end Go.Proofs.YtnjdkhnepmmfgaaDoor.Lv
