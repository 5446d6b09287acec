/- Parts of the proof, put together by a program of the session. -/
import Derived.Test.YtnjdkhnepmmfgaaDoorCore0
import Derived.Test.YtnjdkhnepmmfgaaDoorCore1
import Derived.Test.YtnjdkhnepmmfgaaDoorCore4
import Derived.Test.YtnjdkhnepmmfgaaDoorCore3
import Derived.Test.YtnjdkhnepmmfgaaDoorRows
import Derived.LaidSub
import Derived.MakeChecks
import Derived.Test.YtnjdkhnepmmfgaaDoorCWords
import Derived.ChangeArms
import Derived.OpenShut
import Derived.Deep.Slices
import Derived.DataReads
import Derived.WideShapes
import Derived.Lib.SmallJoins
import Derived.LaidMore
import Derived.Lay
import Derived.WalkKit
import Derived.ProofKit
import Derived.ShutString
import Derived.ChangeOld
import Derived.Below
import Derived.SizedLaws
namespace Go.Proofs.YtnjdkhnepmmfgaaDoor.Pr
set_option linter.unusedVariables false
set_option linter.unusedSimpArgs false
open Go Go.RowKit Go.Proofs.YtnjdkhnepmmfgaaDoorW.PrintWords Go.Proofs.YtnjdkhnepmmfgaaDoorW.PrintLast Go.Proofs.YtnjdkhnepmmfgaaDoorW.PrintMore Kp Fv Rt Tdy Cl Mg Go.Proofs.YtnjdkhnepmmfgaaDoor.Op Lr
theorem ans_below {P : Program} {w W : World} {fv r : Value} {args : Array Value} (h : Answers P w fv args r) (hb : Below w.heap.size w W) : Answers P W fv args r := by
 obtain ⟨f, fn, cap, e, h1, h2, h3, h4⟩ := h
 exact ⟨f, fn, cap, e, h1, h2, h3, fun V hV => h4 V (below_step hb hV)⟩
set_option maxHeartbeats 4000000 in
set_option maxRecDepth 100000 in
theorem p1 (ga gm gn : Nat) (fv : Value) (op : Bool → Bool → Bool) (tm sm tn sn : Int) (a1 : List Bool) (r1 : List (List Int)) (a2 : List Bool) (r2 : List (List Int)) (x y : Nat) (W : World) (hf : W.cell? ⟨ga, 0, none⟩ = some fv) (hm : Mach W gm tm sm a1 r1) (hn : Mach W gn tn sn a2 r2) (hx : x < a1.length) (hy : y < a2.length) (hop : ∀ p q, Answers Tryd.prog W fv #[.bool p, .bool q] (.bool (op p q))) :
  Calls Tryd.prog 121 #[.agg #[.int .i64 (x : Int), .int .i64 (y : Int)], .pointer (some ⟨ga, 0, none⟩), .pointer (some ⟨gm, 0, none⟩), .pointer (some ⟨gn, 0, none⟩)] W fun e W' => e = .returned (.bool (op a1[x] a2[y])) ∧ Below W.heap.size W W' := by
 have hB := Below.refl W.heap.size W
 have hb1 := below_alloc hB (.cells #[.int .i64 (x : Int), .int .i64 (y : Int)] 144)
 have hP := blk_new W (.cells #[.int .i64 (x : Int), .int .i64 (y : Int)] 144)
 have x0 : (W.alloc (.cells #[.int .i64 (x : Int), .int .i64 (y : Int)] 144)).cell? ⟨W.heap.size, 0, none⟩ = some (.int .i64 (x : Int)) := (blk_cell hP 0).trans rfl
 have y0 : (W.alloc (.cells #[.int .i64 (x : Int), .int .i64 (y : Int)] 144)).cell? ⟨W.heap.size, 1, none⟩ = some (.int .i64 (y : Int)) := (blk_cell hP 1).trans rfl
 obtain ⟨AA, ca1, AN, cn, h1, h2, h3, h4, h5⟩ := (hm.below hb1).lies
 obtain ⟨AB, ca2, AM, cm, i1, i2, i3, i4, i5⟩ := (hn.below hb1).lies
 have c2 : (W.alloc (.cells #[.int .i64 (x : Int), .int .i64 (y : Int)] 144)).cell? ⟨gm, 2, none⟩ = some (.slice AA a1.length ca1) := (blk_cell h1 2).trans rfl
 have d2 : (W.alloc (.cells #[.int .i64 (x : Int), .int .i64 (y : Int)] 144)).cell? ⟨gn, 2, none⟩ = some (.slice AB a2.length ca2) := (blk_cell i1 2).trans rfl
 have hf1 := at_cell hb1 hf
 obtain ⟨a3, rfl, k1⟩ := at_mark h2 x hx
 obtain ⟨a4, rfl, k2⟩ := at_mark i2 y hy
 have hl1 : ((x : Int) < (a1.length : Int)) = True := eq_true (by omega)
 have hl2 : ((y : Int) < (a2.length : Int)) = True := eq_true (by omega)
 have hp1 : (0 ≤ (x : Int)) = True := eq_true (by omega)
 have hp2 : (0 ≤ (y : Int)) = True := eq_true (by omega)
 obtain ⟨f2, fn2, cap2, rfl, hfn, hnm, hbd, hcall⟩ := hop a1[x] a2[y]
 clear h1 h2 h3 h4 h5 i1 i2 i3 i4 i5 hm hn hop hP hf
 go_enter Tryd.func121, Tryd.ntmps121
 go_wp2
 refine st 15 (fun w' => w'.cell? ⟨ga, 0, none⟩ = some (.func (.func f2) #[] cap2) ∧ w'.cell? ⟨gm, 2, none⟩ = some (.slice (some a3) a1.length ca1) ∧ w'.cell? ⟨W.heap.size, 0, none⟩ = some (.int .i64 (x : Int)) ∧ w'.cell? (a3.add x) = some (.bool a1[x]) ∧ w'.cell? ⟨gn, 2, none⟩ = some (.slice (some a4) a2.length ca2) ∧ w'.cell? ⟨W.heap.size, 1, none⟩ = some (.int .i64 (y : Int)) ∧ w'.cell? (a4.add y) = some (.bool a2[y])) [] (⟨hf1, c2, x0, k1, d2, y0, k2⟩) (fun hHeld => ?_)
 refine pu 1 7 ?_
 refine pu 3 9 ?_
 refine pu 7 13 ?_
 refine pu 9 15 ?_
 refine tk 0 6 hHeld ?_
 refine tk 2 8 hHeld ?_
 refine tk 4 10 hHeld ?_
 refine pu 5 11 ?_
 refine tk 6 12 hHeld ?_
 refine tk 8 14 hHeld ?_
 refine tk 10 16 hHeld ?_
 refine pu 11 17 ?_
 refine tk 12 18 hHeld ?_
 refine on 13 19 (fun K hK => ?_)
 refine goesVs_ hfn hnm hbd #[.bool a1[x], .bool a2[y]] (by rfl) rfl rfl rfl (by simp only [List.map_toArray, List.map_cons, List.map_nil]; rfl) ?_
 with_reducible refine (hcall _ (below_drew1 (below_alloc (Below.refl _ _) _))).mono ?_
 rintro e w4 ⟨rfl, hb4⟩
 refine ⟨_, rfl, ?_⟩
 refine hK.out _ _ ⟨at_cell hb4 hHeld.1, at_cell hb4 hHeld.2.1, at_cell hb4 hHeld.2.2.1, at_cell hb4 hHeld.2.2.2.1, at_cell hb4 hHeld.2.2.2.2.1, at_cell hb4 hHeld.2.2.2.2.2.1, at_cell hb4 hHeld.2.2.2.2.2.2⟩ (fun hHeld => ?_)
 clear hK K
 refine nm ?_
 refine pu 14 5 ?_
 refine dn ?_
 go_wp2
 go_ret
 exact ⟨rfl, below_step (below_drew1 (below_alloc hB _)) hb4⟩
set_option maxHeartbeats 4000000 in
set_option maxRecDepth 100000 in
theorem p2 (gm gn : Nat) (tm sm tn sn : Int) (a1 : List Bool) (r1 : List (List Int)) (a2 : List Bool) (r2 : List (List Int)) (x y c : Nat) (W : World) (hm : Mach W gm tm sm a1 r1) (hn : Mach W gn tn sn a2 r2) (hx : x < r1.length) (hy : y < r2.length) (hc1 : c < r1[x].length) (hc2 : c < r2[y].length) :
  Calls Tryd.prog 122 #[.agg #[.int .i64 (x : Int), .int .i64 (y : Int)], .int .i64 (c : Int), .pointer (some ⟨gm, 0, none⟩), .pointer (some ⟨gn, 0, none⟩)] W fun e W' => e = .returned (.agg #[.int .i64 r1[x][c], .int .i64 r2[y][c]]) ∧ Below W.heap.size W W' := by
 have hB := Below.refl W.heap.size W
 have hb1 : Below W.heap.size W ((W.alloc (.cells #[.int .i64 (x : Int), .int .i64 (y : Int)] 144)).alloc (.cells #[.int .i64 0, .int .i64 0] 144)) := below_alloc (below_alloc hB _) _
 have hP := blk_alloc (blk_new W (.cells #[.int .i64 (x : Int), .int .i64 (y : Int)] 144)) (.cells #[.int .i64 0, .int .i64 0] 144)
 have x0 : ((W.alloc (.cells #[.int .i64 (x : Int), .int .i64 (y : Int)] 144)).alloc (.cells #[.int .i64 0, .int .i64 0] 144)).cell? ⟨W.heap.size, 0, none⟩ = some (.int .i64 (x : Int)) := (blk_cell hP 0).trans rfl
 have y0 : ((W.alloc (.cells #[.int .i64 (x : Int), .int .i64 (y : Int)] 144)).alloc (.cells #[.int .i64 0, .int .i64 0] 144)).cell? ⟨W.heap.size, 1, none⟩ = some (.int .i64 (y : Int)) := (blk_cell hP 1).trans rfl
 obtain ⟨AA, ca1, AN, cn, h1, h2, h3, h4, h5⟩ := (hm.below hb1).lies
 obtain ⟨AB, ca2, AM, cm, i1, i2, i3, i4, i5⟩ := (hn.below hb1).lies
 have c3 : ((W.alloc (.cells #[.int .i64 (x : Int), .int .i64 (y : Int)] 144)).alloc (.cells #[.int .i64 0, .int .i64 0] 144)).cell? ⟨gm, 3, none⟩ = some (.slice AN r1.length cn) := (blk_cell h1 3).trans rfl
 have d3 : ((W.alloc (.cells #[.int .i64 (x : Int), .int .i64 (y : Int)] 144)).alloc (.cells #[.int .i64 0, .int .i64 0] 144)).cell? ⟨gn, 3, none⟩ = some (.slice AM r2.length cm) := (blk_cell i1 3).trans rfl
 obtain ⟨a3, rfl, A', c5, k1, e3, e4⟩ := at_row h3 x hx
 obtain ⟨a5, rfl, k5⟩ := at_num e4 c hc1
 obtain ⟨a4, rfl, A'', c6, k2, e5, e6⟩ := at_row i3 y hy
 obtain ⟨a6, rfl, k6⟩ := at_num e6 c hc2
 have hl1 : ((x : Int) < (r1.length : Int)) = True := eq_true (by omega)
 have hl2 : ((y : Int) < (r2.length : Int)) = True := eq_true (by omega)
 have hl3 : ((c : Int) < (r1[x].length : Int)) = True := eq_true (by omega)
 have hl4 : ((c : Int) < (r2[y].length : Int)) = True := eq_true (by omega)
 have hp1 : (0 ≤ (x : Int)) = True := eq_true (by omega)
 have hp2 : (0 ≤ (y : Int)) = True := eq_true (by omega)
 have hp3 : (0 ≤ (c : Int)) = True := eq_true (by omega)
 generalize r1[x][c] = u at *
 generalize r2[y][c] = v at *
 generalize r1[x] = ro1 at *
 generalize r2[y] = ro2 at *
 clear h1 h2 h3 h4 h5 i1 i2 i3 i4 i5 hm hn e3 e4 e5 e6 hP
 go_enter Tryd.func122, Tryd.ntmps122
 go_wp2
 refine st 20 (fun w' => w'.cell? ⟨gm, 3, none⟩ = some (.slice (some a3) r1.length cn) ∧ w'.cell? ⟨W.heap.size, 0, none⟩ = some (.int .i64 (x : Int)) ∧ w'.cell? (a3.add x) = some (.slice (some a5) ro1.length c5) ∧ w'.cell? (a5.add c) = some (.int .i64 u) ∧ w'.cell? ⟨gn, 3, none⟩ = some (.slice (some a4) r2.length cm) ∧ w'.cell? ⟨W.heap.size, 1, none⟩ = some (.int .i64 (y : Int)) ∧ w'.cell? (a4.add y) = some (.slice (some a6) ro2.length c6) ∧ w'.cell? (a6.add c) = some (.int .i64 v)) [19] (⟨c3, x0, k1, k5, d3, y0, k2, k6⟩) (fun hHeld => ?_)
 refine pu 0 7 ?_
 refine pu 2 9 ?_
 refine pu 6 13 ?_
 refine pu 9 16 ?_
 refine pu 11 18 ?_
 refine pu 15 22 ?_
 refine tk 1 8 hHeld ?_
 refine tk 3 10 hHeld ?_
 refine pu 4 11 ?_
 refine tk 5 12 hHeld ?_
 refine pu 7 14 ?_
 refine tk 8 15 hHeld ?_
 refine tk 10 17 hHeld ?_
 refine tk 12 19 hHeld ?_
 refine pu 13 20 ?_
 refine tk 14 21 hHeld ?_
 refine pu 16 23 ?_
 refine tk 17 24 hHeld ?_
 refine pu 18 25 ?_
 refine la 19 (fun K hK => ?_)
 refine sk ((((W.alloc (.cells #[.int .i64 (x : Int), .int .i64 (y : Int)] 144)).alloc (.cells #[.int .i64 0, .int .i64 0] 144)).drew.setCell ⟨W.heap.size + 1, 0, none⟩ (.int .i64 u)).setCell ⟨W.heap.size + 1, 1, none⟩ (.int .i64 v)) ?_
 refine hK.out _ _ ?_
 refine dn ?_
 go_wp2
 refine bodyPost_ret (results_cell_row rfl _ _ (W.heap.size + 1) 144 #[.int .i64 u, .int .i64 v] (0, 0) _ rfl ?_ Tryd.underlying144 rfl (by kernel_rfl)) rfl ⟨rfl, ?_⟩
 ·exact blk_put (blk_put (blk_drew (blk_at _ _ _ (by simp))) 0 _ rfl) 1 _ rfl
 ·exact below_set (below_set (below_drew1 (below_alloc (below_alloc hB _) _)) (by omega)) (by omega)
set_option maxHeartbeats 4000000 in
set_option maxRecDepth 100000 in
/-- The machine of the pairs that are met of two machines whose first states are 0. -/
theorem pairs (t wd : Nat) (op : Bool → Bool → Bool) (fo : FuncId) (hwd2 : wd ≤ 30) (hwd : ∀ W, Calls Tryd.prog 94 #[.int .i64 (t : Int)] W fun e W' => e = .returned (.int .i64 wd) ∧ Below W.heap.size W W')
  (a1 : List Bool) (r1 : List (List Nat)) (a2 : List Bool) (r2 : List (List Nat)) (h1 : Closed wd r1 a1) (h2 : Closed wd r2 a2) (s1 : 0 < r1.length) (s2 : 0 < r2.length) (hs : r1.length * r2.length ≤ 2000000) (w : World) (hop : ∀ p q, Answers Tryd.prog w (.func (.func fo) #[] #[]) #[.bool p, .bool q] (.bool (op p q)))
  (AA : Option Addr) (ca : Nat) (AN : Option Addr) (cn : Nat) (hA : Kd.C Kd.bool w AA a1.length a1) (hN : Kd.C (Kd.slice 3 (Kd.int .i64)) w AN r1.length (r1.map ints)) (hca : a1.length ≤ ca) (hcn : r1.length ≤ cn)
  (AB : Option Addr) (cb : Nat) (AM : Option Addr) (cm : Nat) (hB : Kd.C Kd.bool w AB a2.length a2) (hM : Kd.C (Kd.slice 3 (Kd.int .i64)) w AM r2.length (r2.map ints)) (hcb : a2.length ≤ cb) (hcm : r2.length ≤ cm)
  (f : Nat) (l : List (Int × Int)) (rws : List (List Nat)) (hr : bfs id (nxtQ r1 r2) (List.range wd) 0 f 0 [((0 : Int), (0 : Int))] [] = some (some (l, rws))) (hl : l.length ≤ 2000000) :
  Calls Tryd.prog 114 #[.agg #[.int .i64 (t : Int), .int .i64 0, .slice AA a1.length ca, .slice AN r1.length cn], .agg #[.int .i64 (t : Int), .int .i64 0, .slice AB a2.length cb, .slice AM r2.length cm], .func (.func fo) #[] #[]] w fun e w' => ∃ vA vN, e = .returned (.agg #[.int .i64 (t : Int), .int .i64 0, vA, vN]) ∧
   Kd.R Kd.bool 4 w' w.heap.size (fun _ => True) vA (l.map (accQ op a1 a2)) ∧ Kd.R (Kd.slice 3 (Kd.int .i64)) 87 w' w.heap.size (fun _ => True) vN (rws.map ints) ∧ Below w.heap.size w w' := by
 obtain ⟨W4, hW4⟩ : ∃ W4, ((((w.alloc (.cells #[.int .i64 (t : Int), .int .i64 0, .slice AA a1.length ca, .slice AN r1.length cn] 66)).alloc (.cells #[.int .i64 (t : Int), .int .i64 0, .slice AB a2.length cb, .slice AM r2.length cm] 66)).alloc (.cells #[.func (.func fo) #[] #[]] 124)).alloc (.cells #[.int .i64 0, .int .i64 0, .slice none 0 0, .slice none 0 0] 66)) = W4 := ⟨_, rfl⟩
 have hb4 : Below w.heap.size w W4 := by rw [← hW4]; exact below_alloc (below_alloc (below_alloc (below_alloc (Below.refl _ _) _) _) _) _
 have p3 : W4.heap[w.heap.size]? = some (.cells #[.int .i64 (t : Int), .int .i64 0, .slice AA a1.length ca, .slice AN r1.length cn] 66 (0, 0)) := by rw [← hW4]; exact blk_alloc (blk_alloc (blk_alloc (blk_new _ _) _) _) _
 have p4 : W4.heap[w.heap.size + 1]? = some (.cells #[.int .i64 (t : Int), .int .i64 0, .slice AB a2.length cb, .slice AM r2.length cm] 66 (0, 0)) := by rw [← hW4]; exact blk_alloc (blk_alloc (blk_at _ _ _ (by simp)) _) _
 have p5 : W4.heap[w.heap.size + 2]? = some (.cells #[.func (.func fo) #[] #[]] 124 (0, 0)) := by rw [← hW4]; exact blk_alloc (blk_at _ _ _ (by simp)) _
 have p6 : W4.heap[w.heap.size + 3]? = some (.cells #[.int .i64 0, .int .i64 0, .slice none 0 0, .slice none 0 0] 66 (0, 0)) := by rw [← hW4]; exact blk_at _ _ _ (by simp)
 have hm : Mach W4 w.heap.size t 0 a1 (r1.map ints) := ⟨AA, ca, AN, cn, by rw [List.length_map]; exact p3, Kd.C_below hA hb4, by rw [List.length_map]; exact Kd.C_below hN hb4, hca, by rw [List.length_map]; exact hcn⟩
 have hn : Mach W4 (w.heap.size + 1) t 0 a2 (r2.map ints) := ⟨AB, cb, AM, cm, by rw [List.length_map]; exact p4, Kd.C_below hB hb4, by rw [List.length_map]; exact Kd.C_below hM hb4, hcb, by rw [List.length_map]; exact hcm⟩
 have hf : W4.cell? ⟨w.heap.size + 2, 0, none⟩ = some (.func (.func fo) #[] #[]) := (blk_cell p5 0).trans rfl
 have hcall := GwQ.grow t ((0 : Int), (0 : Int)) (.func (.func 121) #[] #[.pointer (some ⟨w.heap.size + 2, 0, none⟩), .pointer (some ⟨w.heap.size, 0, none⟩), .pointer (some ⟨w.heap.size + 1, 0, none⟩)])
  (.func (.func 122) #[] #[.pointer (some ⟨w.heap.size, 0, none⟩), .pointer (some ⟨w.heap.size + 1, 0, none⟩)]) (accQ op a1 a2) (nxtQ r1 r2) W4 wd hwd2 hwd (InQ r1.length r2.length) ⟨0, 0, rfl, s1, s2⟩ (by
   rintro k ⟨x, y, rfl, hx, hy⟩
   have e1 : r1.length * 1 ≤ r1.length * r2.length := Nat.mul_le_mul_left _ s2
   have e2 : 1 * r2.length ≤ r1.length * r2.length := Nat.mul_le_mul_right _ s1
   exact ⟨⟨by simp only; omega, by simp only; omega⟩, ⟨by simp only; omega, by simp only; omega⟩⟩) (fun p c hp hc => inQ_next h1 h2 hp hc) (by
   rintro k ⟨x, y, rfl, hx, hy⟩
   refine ⟨_, _, _, rfl, Tryd.func121, rfl, rfl, fun W hb => ?_⟩
   have ha1 : x < a1.length := by rw [← h1.len]; exact hx
   have ha2 : y < a2.length := by rw [← h2.len]; exact hy
   refine (p1 (w.heap.size + 2) w.heap.size (w.heap.size + 1) (.func (.func fo) #[] #[]) op t 0 t 0 a1 (r1.map ints) a2 (r2.map ints) x y W (at_cell hb hf) (hm.below hb) (hn.below hb) ha1 ha2 (fun p q => ans_below (hop p q) (below_step hb4 hb))).mono ?_
   rintro e w' ⟨rfl, h⟩
   refine ⟨?_, h⟩
   simp [accQ, List.getD_eq_getElem?_getD, ha1, ha2]) (by
   rintro k c ⟨x, y, rfl, hx, hy⟩ hc
   refine ⟨_, _, _, rfl, Tryd.func122, rfl, rfl, fun W hb => ?_⟩
   have e1 : (r1.map ints)[x]'(by rw [List.length_map]; exact hx) = ints r1[x] := by simp
   have e2 : (r2.map ints)[y]'(by rw [List.length_map]; exact hy) = ints r2[y] := by simp
   have w1 : r1[x].length = wd := h1.wide _ (List.getElem_mem _)
   have w2 : r2[y].length = wd := h2.wide _ (List.getElem_mem _)
   refine (p2 w.heap.size (w.heap.size + 1) t 0 t 0 a1 (r1.map ints) a2 (r2.map ints) x y c W (hm.below hb) (hn.below hb) (by rw [List.length_map]; exact hx) (by rw [List.length_map]; exact hy) (by rw [e1, ints_length]; omega) (by rw [e2, ints_length]; omega)).mono ?_
   rintro e w' ⟨rfl, h⟩
   refine ⟨?_, h⟩
   have c1 : c < r1[x].length := by omega
   have c2 : c < r2[y].length := by omega
   simp [nxtQ, GwP.encP, ints, GwI.ints, List.getD_eq_getElem?_getD, hx, hy, c1, c2]) f l rws hr hl
 have hcq := Aside0.mk hcall
 have p6q := Aside0.mk p6
 have hb4q := Aside0.mk hb4
 clear hcall p3 p4 p5 p6 hm hn hf hb4 hA hN hB hM hop
 subst hW4
 unfold GwP.encP at hcq
 dsimp only at hcq
 go_enter Tryd.func114, Tryd.ntmps114
 go_wp2_with (go_at_call 120; go_loud (
   with_reducible refine hcq.out.mono ?_
   rintro e w5 ⟨vA, vN, rfl, r5, r6, hb5⟩
   obtain ⟨A5, c5, e5⟩ := Kd.R_slice r5
   obtain ⟨A6, c6, e6⟩ := Kd.R_slice r6
   obtain ⟨n5, hn5⟩ : ∃ n, (l.map (accQ op a1 a2)).length = n := ⟨_, rfl⟩
   obtain ⟨n6, hn6⟩ : ∃ n, (rws.map GwP.ints).length = n := ⟨_, rfl⟩
   rw [hn5] at e5
   rw [hn6] at e6
   subst e5 e6
   clear hn5 hn6
   have hb5a : Below w5.heap.size w5 (w5.alloc (.cells #[.int .i64 (t : Int), .int .i64 0, .slice A5 n5 c5, .slice A6 n6 c6] 66)) := below_alloc (Below.refl _ _) _
   have b0 := blk_below (blk_below p6q.out hb5) hb5a
   have e0 : (w5.alloc (.cells #[.int .i64 (t : Int), .int .i64 0, .slice A5 n5 c5, .slice A6 n6 c6] 66)).cell? ⟨w.heap.size + 3, 0, none⟩ = some (.int .i64 0) := (blk_cell b0 0).trans rfl
   have f0 : (w5.alloc (.cells #[.int .i64 (t : Int), .int .i64 0, .slice A5 n5 c5, .slice A6 n6 c6] 66)).frozen? ⟨w.heap.size + 3, 0, none⟩ = false := blk_frozen b0 0
   have e1 : (w5.alloc (.cells #[.int .i64 (t : Int), .int .i64 0, .slice A5 n5 c5, .slice A6 n6 c6] 66)).cell? ⟨w.heap.size + 3, 1, none⟩ = some (.int .i64 0) := (blk_cell b0 1).trans rfl
   have f1 : (w5.alloc (.cells #[.int .i64 (t : Int), .int .i64 0, .slice A5 n5 c5, .slice A6 n6 c6] 66)).frozen? ⟨w.heap.size + 3, 1, none⟩ = false := blk_frozen b0 1
   have e2 : (w5.alloc (.cells #[.int .i64 (t : Int), .int .i64 0, .slice A5 n5 c5, .slice A6 n6 c6] 66)).cell? ⟨w.heap.size + 3, 2, none⟩ = some (.slice none 0 0) := (blk_cell b0 2).trans rfl
   have f2 : (w5.alloc (.cells #[.int .i64 (t : Int), .int .i64 0, .slice A5 n5 c5, .slice A6 n6 c6] 66)).frozen? ⟨w.heap.size + 3, 2, none⟩ = false := blk_frozen b0 2
   have e3 : (w5.alloc (.cells #[.int .i64 (t : Int), .int .i64 0, .slice A5 n5 c5, .slice A6 n6 c6] 66)).cell? ⟨w.heap.size + 3, 3, none⟩ = some (.slice none 0 0) := (blk_cell b0 3).trans rfl
   have f3 : (w5.alloc (.cells #[.int .i64 (t : Int), .int .i64 0, .slice A5 n5 c5, .slice A6 n6 c6] 66)).frozen? ⟨w.heap.size + 3, 3, none⟩ = false := blk_frozen b0 3))
 have b1 := blk_put b0 0 (.int .i64 (t : Int)) rfl
 have b2 := blk_put b1 1 (.int .i64 0) rfl
 have b3 := blk_put b2 2 (.slice A5 n5 c5) rfl
 have b4 := blk_put b3 3 (.slice A6 n6 c6) rfl
 have hB9 := below_step (below_step hb4q.out hb5) hb5a
 refine bodyPost_ret (results_cell_row rfl _ _ (w.heap.size + 3) 66 #[.int .i64 (t : Int), .int .i64 0, .slice A5 n5 c5, .slice A6 n6 c6] (0, 0) _ rfl b4 Tryd.underlying66 rfl (by kernel_rfl)) rfl ⟨_, _, rfl, ?_, ?_, ?_⟩
 ·exact Kd.R_lower (Kd.R_set (Kd.R_set (Kd.R_set (Kd.R_set (Kd.R_below r5 hb5a) b0 (by decide) 0 _) b1 (by decide) 1 _) b2 (by decide) 2 _) b3 (by decide) 3 _) (Below.size hb4q.out)
 ·exact Kd.R_lower (Kd.R_set (Kd.R_set (Kd.R_set (Kd.R_set (Kd.R_below r6 hb5a) b0 (by decide) 0 _) b1 (by decide) 1 _) b2 (by decide) 2 _) b3 (by decide) 3 _) (Below.size hb4q.out)
 ·exact (((hB9.setCell (by simp <;> omega) _).setCell (by simp <;> omega) _).setCell (by simp <;> omega) _).setCell (by simp <;> omega) _
end Go.Proofs.YtnjdkhnepmmfgaaDoor.Pr
namespace Go.Proofs.YtnjdkhnepmmfgaaDoor.Jo
set_option linter.unusedVariables false
set_option linter.unusedSimpArgs false
open Go Go.RowKit Go.Proofs.YtnjdkhnepmmfgaaDoorW.PrintWords Go.Proofs.YtnjdkhnepmmfgaaDoorW.PrintLast Go.Proofs.YtnjdkhnepmmfgaaDoorW.PrintMore Kp Fv Rt Mg Mk Tdy Tf Tid Ti Tr Go.Proofs.YtnjdkhnepmmfgaaDoor.Op Lr Gv Cod Pts PB1
/-- A machine of a call's own. -/
structure Mc (base : Nat) (W : World) (n : Nat) (M : List Bool × List (List Nat)) (A2 : Option Addr) (c2 : Nat) (A3 : Option Addr) (c3 : Nat) : Prop where
 o2 : Kd.R Kd.bool 4 W base (fun _ => True) (.slice A2 n c2) M.1
 o3 : Kd.R (Kd.slice 3 (Kd.int .i64)) 87 W base (fun _ => True) (.slice A3 n c3) (M.2.map ints)
section
variable {base : Nat} {W W' : World} {n : Nat} {M : List Bool × List (List Nat)} {A2 : Option Addr} {c2 : Nat} {A3 : Option Addr} {c3 : Nat}
theorem Mc.below (h : Mc base W n M A2 c2 A3 c3) (hb : Below W.heap.size W W') : Mc base W' n M A2 c2 A3 c3 := ⟨Kd.R_below h.o2 hb, Kd.R_below h.o3 hb⟩
theorem mc_set {g : Nat} {cells : Array Value} (h : Mc base W n M A2 c2 A3 c3) (hb : W.heap[g]? = some (.cells cells 66 (0, 0))) (i : Nat) (v : Value) : Mc base (W.setCell ⟨g, i, none⟩ v) n M A2 c2 A3 c3 := ⟨Kd.R_set h.o2 hb (by decide) i v, Kd.R_set h.o3 hb (by decide) i v⟩
theorem Mc.len (h : Mc base W n M A2 c2 A3 c3) : M.1.length = n ∧ (M.2.map ints).length = n := by
 obtain ⟨A, c, e, _⟩ := Kd.R_reads h.o2
 obtain ⟨B, d, e', _⟩ := Kd.R_reads h.o3
 injection e with _ e1
 injection e' with _ e2
 exact ⟨e1.symm, e2.symm⟩
theorem Mc.r2 (h : Mc base W n M A2 c2 A3 c3) : Kd.C Kd.bool W A2 n M.1 := by
 obtain ⟨A, c, e, _, hC⟩ := Kd.R_reads h.o2
 injection e with e0 e1
 rw [e0, e1]
 exact hC
theorem Mc.l2 (h : Mc base W n M A2 c2 A3 c3) : n ≤ c2 := by
 obtain ⟨A, c, e, hl, _⟩ := Kd.R_reads h.o2
 injection e with _ e1 e2
 omega
theorem Mc.r3 (h : Mc base W n M A2 c2 A3 c3) : Kd.C (Kd.slice 3 (Kd.int .i64)) W A3 n (M.2.map ints) := by
 obtain ⟨A, c, e, _, hC⟩ := Kd.R_reads h.o3
 injection e with e0 e1
 rw [e0, e1]
 exact hC
theorem Mc.l3 (h : Mc base W n M A2 c2 A3 c3) : n ≤ c3 := by
 obtain ⟨A, c, e, hl, _⟩ := Kd.R_reads h.o3
 injection e with _ e1 e2
 omega
end
theorem tidyOf_c (t n : Nat) (s : Int) (A2 : Option Addr) (c2 : Nat) (a : List Bool) (A3 : Option Addr) (c3 : Nat) (b : List (List Int)) (hok : okR (t : Int) s a b = true) (hn : (tidM (t : Int) s a b).2.length = n) (W : World) (hA : Arg W A2 c2 a A3 c3 b) (hG : Glob W) (base : Nat) (hl : base ≤ W.heap.size) :
  Calls Tryd.prog 42 #[.agg #[.int .i64 (t : Int), .int .i64 s, .slice A2 a.length c2, .slice A3 b.length c3]] W fun e w' => ∃ B2 d2 B3 d3, e = .returned (.agg #[.int .i64 (t : Int), .int .i64 0, .slice B2 n d2, .slice B3 n d3]) ∧ Mc base w' n (tidM (t : Int) s a b) B2 d2 B3 d3 ∧ Below W.heap.size W w' := by
 have hk := okM_ok (Il.ok_tidy hok)
 have ht := made_tidied hk.made
 obtain ⟨_, _, hc, _, _, _⟩ := tidM_good hok
 have hN : Kd.C (Kd.slice 2 (Kd.int .i64)) W A3 (b.map nats).length ((b.map nats).map ints) := by rw [← hk.eq, List.length_map]; exact hA.r3
 have hcall := To.tidyOf (t : Int).toNat (by have := hk.t2; omega) s.toNat a (b.map nats) (wdOf (t : Int).toNat) (wd_pos _ hk.t2 hk.t1) (by have := wd_le _ hk.t2; omega) hk.cl hk.n hk.s1
  (fun W => (impl_widthOf.calls 10 _ _ W (fin_wide _ hk.t2).1).mono (fun e W' hh => ⟨hh.1, hh.2.below⟩)) (digs (t : Int).toNat) (fun c _ => digs_len _ _) (fun c _ => digs_lt _ _)
  (fun W c hc => (impl_digitsOf.calls 10 _ _ _ W (fin_digs _ hk.t2 c (by have := wd_le _ hk.t2; omega))).mono (fun e W' hh => by obtain ⟨v, h1, h2, h3⟩ := hh; exact ⟨v, h1, h2, h3⟩))
  W hG A2 c2 A3 c3 hA.r2 hN hA.l2 (by rw [List.length_map]; exact hA.l3) _ _ ht
 rw [List.length_map, ← hk.s0, Int.toNat_natCast] at hcall
 refine hcall.mono ?_
 rintro e w' ⟨vA, vN, rfl, q1, q2, hb⟩
 obtain ⟨B2, d2, e2⟩ := Kd.R_slice q1
 obtain ⟨B3, d3, e3⟩ := Kd.R_slice q2
 have e5 : (tidM (t : Int) s a b).1.length = n := by rw [← hc.len]; exact hn
 have e6 : ((tidM (t : Int) s a b).2.map ints).length = n := by rw [List.length_map]; exact hn
 have q1' : Kd.R Kd.bool 4 w' W.heap.size (fun _ => True) vA (tidM (t : Int) s a b).1 := q1
 have q2' : Kd.R (Kd.slice 3 (Kd.int .i64)) 87 w' W.heap.size (fun _ => True) vN ((tidM (t : Int) s a b).2.map ints) := q2
 obtain ⟨B2, d2, e2⟩ := Kd.R_slice q1'
 obtain ⟨B3, d3, e3⟩ := Kd.R_slice q2'
 rw [e5] at e2
 rw [e6] at e3
 subst e2 e3
 exact ⟨B2, d2, B3, d3, rfl, ⟨Kd.R_lower q1' hl, Kd.R_lower q2' hl⟩, hb⟩
/-- The machine of the pairs that are met is made as the table of all pairs. -/
theorem pairs_tid {t : Nat} (ht : t < 4) (op : Bool → Bool → Bool) {r1 r2 : List (List Nat)} {a1 a2 : List Bool} (h1 : Closed (wdOf t) r1 a1) (h2 : Closed (wdOf t) r2 a2) (s1 : 0 < r1.length) (s2 : 0 < r2.length) :
  ∃ f l rws, bfs id (nxtQ r1 r2) (List.range (wdOf t)) 0 f 0 [((0 : Int), (0 : Int))] [] = some (some (l, rws)) ∧ l.length ≤ r1.length * r2.length ∧ Closed (wdOf t) rws (l.map (accQ op a1 a2)) ∧ 0 < rws.length ∧ rws.length = l.length ∧ tidL (wdOf t) rws (l.map (accQ op a1 a2)) 0 (padT t) = tidL (wdOf t) (rowsD r1 r2 (wdOf t)) (accsD op a1 a2) 0 (padT t) := by
 obtain ⟨f, l, rws, hr, hl, _, h0, he, hd, hl0, hall⟩ := pairs_end h1 h2 s1 s2
 have hc := done_closed (accQ op a1 a2) hd
 have hi : 0 < l.length := by omega
 have hs := done_same (A := ⟨nxtQ r1 r2, accQ op a1 a2⟩) hd hi
 have e0 : l[0] = ((0 : Int), (0 : Int)) := by
  rw [List.getElem?_eq_getElem hi] at hl0
  exact Option.some.inj hl0
 rw [e0] at hs
 have hd2 := rowsD_same op h1 h2 s1 s2
 have e2 : 0 * r2.length + 0 = 0 := by omega
 rw [e2] at hd2
 exact ⟨f, l, rws, hr, hl, hc, h0, he, tid_same ht h0 hc (by simp only [rowsD, List.length_map, List.length_range]; exact Nat.mul_pos s1 s2) (rowsD_closed op h1 h2) (hs.trans hd2.symm)⟩
set_option maxHeartbeats 8000000 in
set_option maxRecDepth 100000 in
theorem joined_i (op : Bool → Bool → Bool) (fo : FuncId) (t s : Int) (A2 : Option Addr) (c2 : Nat) (a : List Bool) (A3 : Option Addr) (c3 : Nat) (b : List (List Int)) (t' s' : Int) (B2 : Option Addr) (d2 : Nat) (a' : List Bool) (B3 : Option Addr) (d3 : Nat) (b' : List (List Int)) (w : World) (hA : Arg w A2 c2 a A3 c3 b) (hB : Arg w B2 d2 a' B3 d3 b') (hS : Small a b) (hS' : Small a' b') (hG : Glob w) (hop : ∀ p q, Answers Tryd.prog w (.func (.func fo) #[] #[]) #[.bool p, .bool q] (.bool (op p q))) :
  Calls Tryd.prog 102 #[.agg #[.int .i64 t, .int .i64 s, .slice A2 a.length c2, .slice A3 b.length c3], .agg #[.int .i64 t', .int .i64 s', .slice B2 a'.length d2, .slice B3 b'.length d3], .func (.func fo) #[] #[]] w (Gives (joinR op t s a b t' s' a' b') w) := by
 have hb1 : Below w.heap.size w (((w.alloc (.cells #[.int .i64 t, .int .i64 s, .slice A2 a.length c2, .slice A3 b.length c3] 27)).alloc (.cells #[.int .i64 t', .int .i64 s', .slice B2 a'.length d2, .slice B3 b'.length d3] 27)).alloc (.cells #[.int .i64 0, .int .i64 0, .slice none 0 0, .slice none 0 0] 27)) := below_alloc (below_alloc (below_alloc (Below.refl _ _) _) _) _
 have hP : Box (((w.alloc (.cells #[.int .i64 t, .int .i64 s, .slice A2 a.length c2, .slice A3 b.length c3] 27)).alloc (.cells #[.int .i64 t', .int .i64 s', .slice B2 a'.length d2, .slice B3 b'.length d3] 27)).alloc (.cells #[.int .i64 0, .int .i64 0, .slice none 0 0, .slice none 0 0] 27)) w.heap.size t s A2 a.length c2 A3 b.length c3 := blk_alloc (blk_alloc (blk_new _ _) _) _
 have hQ : Box (((w.alloc (.cells #[.int .i64 t, .int .i64 s, .slice A2 a.length c2, .slice A3 b.length c3] 27)).alloc (.cells #[.int .i64 t', .int .i64 s', .slice B2 a'.length d2, .slice B3 b'.length d3] 27)).alloc (.cells #[.int .i64 0, .int .i64 0, .slice none 0 0, .slice none 0 0] 27)) (w.heap.size + 1) t' s' B2 a'.length d2 B3 b'.length d3 := blk_alloc (blk_at _ _ _ (by simp)) _
 have hZ : ZBox (((w.alloc (.cells #[.int .i64 t, .int .i64 s, .slice A2 a.length c2, .slice A3 b.length c3] 27)).alloc (.cells #[.int .i64 t', .int .i64 s', .slice B2 a'.length d2, .slice B3 b'.length d3] 27)).alloc (.cells #[.int .i64 0, .int .i64 0, .slice none 0 0, .slice none 0 0] 27)) (w.heap.size + 2) := blk_at _ _ _ (by simp)
 have htwo := Aside0.mk (two_i t s A2 c2 a A3 c3 b t' s' B2 d2 a' B3 d3 b' (((w.alloc (.cells #[.int .i64 t, .int .i64 s, .slice A2 a.length c2, .slice A3 b.length c3] 27)).alloc (.cells #[.int .i64 t', .int .i64 s', .slice B2 a'.length d2, .slice B3 b'.length d3] 27)).alloc (.cells #[.int .i64 0, .int .i64 0, .slice none 0 0, .slice none 0 0] 27)) (hA.below hb1) (hB.below hb1) hS hS')
 have hGq := Aside0.mk hG
 have hopq := Aside0.mk hop
 clear hG hop
 by_cases h0 : two2 t s a b t' s' a' b' = 0
 ·have h0q := Aside0.mk h0
  rw [h0] at htwo
  unfold joinR
  rw [if_pos h0]
  obtain ⟨hok, hok', rfl⟩ := two2_ok h0
  clear h0 h0q
  obtain ⟨t, rfl⟩ : ∃ x : Nat, t = (x : Int) := ⟨t.toNat, by have := (Il.ok_tidy hok).1; omega⟩
  rw [Int.toNat_natCast]
  obtain ⟨ht4, ht0, hM', hM0, hMl, _⟩ := tidM_good hok
  obtain ⟨_, _, hN', hN0, hNl, _⟩ := tidM_good hok'
  obtain ⟨n1, hn1'⟩ : ∃ n, (tidM (t : Int) s a b).2.length = n := ⟨_, rfl⟩
  obtain ⟨n2, hn2'⟩ : ∃ n, (tidM (t : Int) s' a' b').2.length = n := ⟨_, rfl⟩
  have hc1 : Aside0 (∀ W, Below _ _ W → Calls Tryd.prog 42 #[.agg #[.int .i64 (t : Int), .int .i64 s, .slice A2 a.length c2, .slice A3 b.length c3]] W _) := ⟨fun W hb => tidyOf_c t n1 s A2 c2 a A3 c3 b hok hn1' W (hA.below (below_step hb1 hb)) (glob_below hGq.out (below_step hb1 hb)) w.heap.size (Below.size (below_step hb1 hb))⟩
  have hc2 : Aside0 (∀ W, Below _ _ W → Calls Tryd.prog 42 #[.agg #[.int .i64 (t : Int), .int .i64 s', .slice B2 a'.length d2, .slice B3 b'.length d3]] W _) := ⟨fun W hb => tidyOf_c t n2 s' B2 d2 a' B3 d3 b' hok' hn2' W (hB.below (below_step hb1 hb)) (glob_below hGq.out (below_step hb1 hb)) w.heap.size (Below.size (below_step hb1 hb))⟩
  clear hok hok'
  generalize tidM (t : Int) s a b = M at *
  generalize tidM (t : Int) s' a' b' = N at *
  rw [hn1', hn2']
  rw [hn1'] at hM0 hMl
  rw [hn2'] at hN0 hNl
  have hsz0 : n1 * n2 ≤ 1201 * 1201 := Nat.mul_le_mul hMl hNl
  obtain ⟨Pq, hPq⟩ : ∃ P, n1 * n2 = P := ⟨_, rfl⟩
  have hw1 : wrap64 ((n1 : Int) * (n2 : Int)) = (Pq : Int) := by
   have e9 : ((n1 * n2 : Nat) : Int) = (n1 : Int) * (n2 : Int) := by simp
   rw [← e9, hPq]
   unfold wrap64
   omega
  have hw1q := Aside0.mk hw1
  obtain ⟨pf, pl, prws, hpr, hpl, hpc, hp0, hpe, hpt⟩ := pairs_tid ht4 op hM' hN' (by rw [hn1']; exact hM0) (by rw [hn2']; exact hN0)
  rw [hn1', hn2'] at hpl
  rw [← hpt]
  obtain ⟨RR, hR0⟩ : ∃ RR, (if n1 * n2 ≤ 1000 then toldR (t : Int) (tidL (wdOf t) prws (pl.map (accQ op M.1 N.1)) 0 (padT t)).1 ((tidL (wdOf t) prws (pl.map (accQ op M.1 N.1)) 0 (padT t)).2.map ints) else bad 3) = RR := ⟨_, rfl⟩
  rw [hR0]
  have hR0q := Aside0.mk hR0
  clear hR0
  have hsq := Aside0.mk hsz0
  have hPqq := Aside0.mk hPq
  have hplq := Aside0.mk hpl
  have hn1q := Aside0.mk hn1'
  have hn2q := Aside0.mk hn2'
  have hMq := Aside0.mk hM'
  have hNq := Aside0.mk hN'
  have hM0q := Aside0.mk hM0
  have hN0q := Aside0.mk hN0
  have ht4q := Aside0.mk ht4
  have ht0q := Aside0.mk ht0
  have hprq := Aside0.mk hpr
  have hpcq := Aside0.mk hpc
  have hp0q := Aside0.mk hp0
  have hpeq := Aside0.mk hpe
  clear hw1 hsz0 hPq hpl hn1' hn2' hM' hN' hM0 hN0 hMl hNl ht4 ht0 hpr hpc hp0 hpe hpt
  go_enter Tryd.func102, Tryd.ntmps102
  go_wp2_with (go_at_call 113; go_loud (
     with_reducible refine htwo.out.mono ?_
     rintro e w2 ⟨rfl, hb2⟩))
  have hB2 := below_step hb1 hb2
  have hP2 := blk_below hP hb2
  have hQ2 := blk_below hQ hb2
  have hZ2 := blk_below hZ hb2
  replace hc1 : Aside0 (∀ W, Below w2.heap.size w2 W → Calls Tryd.prog 42 #[.agg #[.int .i64 (t : Int), .int .i64 s, .slice A2 a.length c2, .slice A3 b.length c3]] W _) := ⟨fun W hb => hc1.out W (below_step hb2 hb)⟩
  replace hc2 : Aside0 (∀ W, Below w2.heap.size w2 W → Calls Tryd.prog 42 #[.agg #[.int .i64 (t : Int), .int .i64 s', .slice B2 a'.length d2, .slice B3 b'.length d3]] W _) := ⟨fun W hb => hc2.out W (below_step hb2 hb)⟩
  clear hb2 hb1 hP hQ hZ htwo
  have hSS : ∀ W', Below w2.heap.size w2 W' → (fun w' => w'.cell? ⟨w.heap.size, 0, none⟩ = some (.int .i64 (t : Int)) ∧ w'.cell? ⟨w.heap.size, 1, none⟩ = some (.int .i64 s) ∧ w'.cell? ⟨w.heap.size, 2, none⟩ = some (.slice A2 a.length c2) ∧ w'.cell? ⟨w.heap.size, 3, none⟩ = some (.slice A3 b.length c3) ∧ w'.cell? ⟨w.heap.size + 1, 0, none⟩ = some (.int .i64 (t : Int)) ∧ w'.cell? ⟨w.heap.size + 1, 1, none⟩ = some (.int .i64 s') ∧ w'.cell? ⟨w.heap.size + 1, 2, none⟩ = some (.slice B2 a'.length d2) ∧ w'.cell? ⟨w.heap.size + 1, 3, none⟩ = some (.slice B3 b'.length d3)) W' := fun W' hb => by
   obtain ⟨u0, u1, u2, u3⟩ := box (blk_below hP2 hb)
   obtain ⟨v0, v1, v2, v3⟩ := box (blk_below hQ2 hb)
   exact ⟨u0, u1, u2, u3, v0, v1, v2, v3⟩
  have hB0 : Below w2.heap.size w2 w2.drew := below_drew1 (Below.refl _ _)
  have hz2 := blk_lt hZ2
  refine st 8 (fun w' => w'.cell? ⟨w.heap.size, 0, none⟩ = some (.int .i64 (t : Int)) ∧ w'.cell? ⟨w.heap.size, 1, none⟩ = some (.int .i64 s) ∧ w'.cell? ⟨w.heap.size, 2, none⟩ = some (.slice A2 a.length c2) ∧ w'.cell? ⟨w.heap.size, 3, none⟩ = some (.slice A3 b.length c3) ∧ w'.cell? ⟨w.heap.size + 1, 0, none⟩ = some (.int .i64 (t : Int)) ∧ w'.cell? ⟨w.heap.size + 1, 1, none⟩ = some (.int .i64 s') ∧ w'.cell? ⟨w.heap.size + 1, 2, none⟩ = some (.slice B2 a'.length d2) ∧ w'.cell? ⟨w.heap.size + 1, 3, none⟩ = some (.slice B3 b'.length d3)) [6, 7] (hSS _ hB0) (fun hHeld => ?_)
  refine tk 0 18 hHeld ?_
  refine tk 2 20 hHeld ?_
  refine join_ (σ := Option Addr × Nat × Option Addr × Nat × Option Addr × Nat × Option Addr × Nat × Nat × Nat) 2 #[true, true, true, true, true, true, false, false] (fun s => [(19, .agg #[.int .i64 (t : Int), .int .i64 0, .slice s.1 n1 s.2.1, .slice s.2.2.1 n1 s.2.2.2.1]), (21, .agg #[.int .i64 (t : Int), .int .i64 0, .slice s.2.2.2.2.1 n2 s.2.2.2.2.2.1, .slice s.2.2.2.2.2.2.1 n2 s.2.2.2.2.2.2.2.1]), (9, .pointer (some ⟨s.2.2.2.2.2.2.2.2.1, 0, none⟩)), (10, .pointer (some ⟨s.2.2.2.2.2.2.2.2.2, 0, none⟩))])
   (fun s w' => Mc w.heap.size w' n1 M s.1 s.2.1 s.2.2.1 s.2.2.2.1 ∧ Mc w.heap.size w' n2 N s.2.2.2.2.1 s.2.2.2.2.2.1 s.2.2.2.2.2.2.1 s.2.2.2.2.2.2.2.1 ∧ w'.heap[s.2.2.2.2.2.2.2.2.1]? = some (.cells #[.int .i64 0, .int .i64 0, .slice none 0 0, .slice none 0 0] 66 (0, 0)) ∧ w'.heap[s.2.2.2.2.2.2.2.2.2]? = some (.cells #[.int .i64 0, .int .i64 0, .slice none 0 0, .slice none 0 0] 66 (0, 0)) ∧ s.2.2.2.2.2.2.2.2.1 ≠ s.2.2.2.2.2.2.2.2.2 ∧ w2.heap.size ≤ s.2.2.2.2.2.2.2.2.1 ∧ w2.heap.size ≤ s.2.2.2.2.2.2.2.2.2 ∧ Below w2.heap.size w2 w') ?_ ?_
  rotate_left
  ·intro hCont
   refine three_ (i := 1) (j := 4) (k := 5) (Ni := some 19) (Nj := some 9) (Nk := some 10) #[true, true, true, false, false, false, false, false] #[true, false, true, false, true, false, false, false] #[true, false, true, false, false, true, false, false] rfl rfl rfl rfl rfl rfl (by kernel_rfl) (by decide) (by decide) (by decide) (fun K hK => ?_) (fun K hK => ?_) (fun K hK => ?_)
   ·skip
    refine goes_ Tryd.func42 (by kernel_rfl) rfl #[.agg #[.int .i64 (t : Int), .int .i64 s, .slice A2 a.length c2, .slice A3 b.length c3]] (by rfl) rfl rfl (by (try simp only [List.map_toArray, List.map_cons, List.map_nil]); first | done | rfl) ?_
    with_reducible refine (hc1.out _ hB0).mono ?_
    rintro e V1 ⟨D2, x2, D3, x3, rfl, hM1, hb1⟩
    refine ⟨_, rfl, ?_⟩
    have hB1 := below_step hB0 hb1
    refine hK.out _ _ (hSS _ hB1) (fun hHeld => ?_)
    clear hK K
    refine nm ?_
    refine three_ (i := 3) (j := 4) (k := 5) (Ni := some 21) (Nj := some 9) (Nk := some 10) #[true, true, true, true, false, false, false, false] #[true, true, true, false, true, false, false, false] #[true, true, true, false, false, true, false, false] rfl rfl rfl rfl rfl rfl (by kernel_rfl) (by decide) (by decide) (by decide) (fun K hK => ?_) (fun K hK => ?_) (fun K hK => ?_)
    ·skip
     refine goes_ Tryd.func42 (by kernel_rfl) rfl #[.agg #[.int .i64 (t : Int), .int .i64 s', .slice B2 a'.length d2, .slice B3 b'.length d3]] (by rfl) rfl rfl (by (try simp only [List.map_toArray, List.map_cons, List.map_nil]); first | done | rfl) ?_
     with_reducible refine (hc2.out _ hB1).mono ?_
     rintro e V2 ⟨E2, y2, E3, y3, rfl, hM2, hb2⟩
     refine ⟨_, rfl, ?_⟩
     have hB2 := below_step hB1 hb2
     refine hK.out _ _ (hSS _ hB2) (fun hHeld => ?_)
     clear hK K
     refine nm ?_
     refine two_ (i := 4) (j := 5) (Ni := some 9) (Nj := some 10) #[true, true, true, true, true, false, false, false] #[true, true, true, true, false, true, false, false] rfl rfl rfl rfl (by kernel_rfl) (by decide) (by decide) (fun K hK => ?_) (fun K hK => ?_)
     ·skip
      refine value_ (w1 := (V2.alloc (.cells #[.int .i64 0, .int .i64 0, .slice none 0 0, .slice none 0 0] 66))) (v := .pointer (some ⟨V2.heap.size, 0, none⟩)) (by rfl) rfl (by first | (go_simp; done) | (go_simp; rfl)) ?_
      have hb3 : Below V2.heap.size V2 (V2.alloc (.cells #[.int .i64 0, .int .i64 0, .slice none 0 0, .slice none 0 0] 66)) := below_alloc (Below.refl _ _) _
      have hB3 := below_step hB2 hb3
      refine hK.out _ _ (hSS _ hB3) (fun hHeld => ?_)
      clear hK K
      refine nm ?_
      refine one_ (i := 5) (N := some 10) (zb 8 63) rfl rfl (by kernel_rfl) (by decide) (fun K hK => ?_)
      refine value_ (w1 := ((V2.alloc (.cells #[.int .i64 0, .int .i64 0, .slice none 0 0, .slice none 0 0] 66)).alloc (.cells #[.int .i64 0, .int .i64 0, .slice none 0 0, .slice none 0 0] 66))) (v := .pointer (some ⟨(V2.alloc (.cells #[.int .i64 0, .int .i64 0, .slice none 0 0, .slice none 0 0] 66)).heap.size, 0, none⟩)) (by rfl) rfl (by first | (go_simp; done) | (go_simp; rfl)) ?_
      have hb4 : Below (V2.alloc (.cells #[.int .i64 0, .int .i64 0, .slice none 0 0, .slice none 0 0] 66)).heap.size (V2.alloc (.cells #[.int .i64 0, .int .i64 0, .slice none 0 0, .slice none 0 0] 66)) ((V2.alloc (.cells #[.int .i64 0, .int .i64 0, .slice none 0 0, .slice none 0 0] 66)).alloc (.cells #[.int .i64 0, .int .i64 0, .slice none 0 0, .slice none 0 0] 66)) := below_alloc (Below.refl _ _) _
      have hB4 := below_step hB3 hb4
      refine hK.out _ _ (hSS _ hB4) (fun hHeld => ?_)
      clear hK K
      refine nm ?_
      exact norm_ (by simp only [putAll, Act.put, List.setIfInBounds_toArray, List.set_cons_zero, List.set_cons_succ]) (hCont (D2, x2, D3, x3, E2, y2, E3, y3, V2.heap.size, (V2.alloc (.cells #[.int .i64 0, .int .i64 0, .slice none 0 0, .slice none 0 0] 66)).heap.size) _ ⟨hM1.below (below_step (below_step hb2 hb3) hb4), hM2.below (below_step hb3 hb4), (blk_below (blk_new V2 (.cells #[.int .i64 0, .int .i64 0, .slice none 0 0, .slice none 0 0] 66)) hb4), (blk_below (blk_new (V2.alloc (.cells #[.int .i64 0, .int .i64 0, .slice none 0 0, .slice none 0 0] 66)) (.cells #[.int .i64 0, .int .i64 0, .slice none 0 0, .slice none 0 0] 66)) (Below.refl _ _)), (Nat.ne_of_lt (blk_lt (blk_below (blk_new V2 (.cells #[.int .i64 0, .int .i64 0, .slice none 0 0, .slice none 0 0] 66)) (Below.refl _ _)))), Below.size hB2, Below.size hB3, hB4⟩)
     ·skip
      refine value_ (w1 := (V2.alloc (.cells #[.int .i64 0, .int .i64 0, .slice none 0 0, .slice none 0 0] 66))) (v := .pointer (some ⟨V2.heap.size, 0, none⟩)) (by rfl) rfl (by first | (go_simp; done) | (go_simp; rfl)) ?_
      have hb3 : Below V2.heap.size V2 (V2.alloc (.cells #[.int .i64 0, .int .i64 0, .slice none 0 0, .slice none 0 0] 66)) := below_alloc (Below.refl _ _) _
      have hB3 := below_step hB2 hb3
      refine hK.out _ _ (hSS _ hB3) (fun hHeld => ?_)
      clear hK K
      refine nm ?_
      refine one_ (i := 4) (N := some 9) (zb 8 63) rfl rfl (by kernel_rfl) (by decide) (fun K hK => ?_)
      refine value_ (w1 := ((V2.alloc (.cells #[.int .i64 0, .int .i64 0, .slice none 0 0, .slice none 0 0] 66)).alloc (.cells #[.int .i64 0, .int .i64 0, .slice none 0 0, .slice none 0 0] 66))) (v := .pointer (some ⟨(V2.alloc (.cells #[.int .i64 0, .int .i64 0, .slice none 0 0, .slice none 0 0] 66)).heap.size, 0, none⟩)) (by rfl) rfl (by first | (go_simp; done) | (go_simp; rfl)) ?_
      have hb4 : Below (V2.alloc (.cells #[.int .i64 0, .int .i64 0, .slice none 0 0, .slice none 0 0] 66)).heap.size (V2.alloc (.cells #[.int .i64 0, .int .i64 0, .slice none 0 0, .slice none 0 0] 66)) ((V2.alloc (.cells #[.int .i64 0, .int .i64 0, .slice none 0 0, .slice none 0 0] 66)).alloc (.cells #[.int .i64 0, .int .i64 0, .slice none 0 0, .slice none 0 0] 66)) := below_alloc (Below.refl _ _) _
      have hB4 := below_step hB3 hb4
      refine hK.out _ _ (hSS _ hB4) (fun hHeld => ?_)
      clear hK K
      refine nm ?_
      exact norm_ (by simp only [putAll, Act.put, List.setIfInBounds_toArray, List.set_cons_zero, List.set_cons_succ]) (hCont (D2, x2, D3, x3, E2, y2, E3, y3, (V2.alloc (.cells #[.int .i64 0, .int .i64 0, .slice none 0 0, .slice none 0 0] 66)).heap.size, V2.heap.size) _ ⟨hM1.below (below_step (below_step hb2 hb3) hb4), hM2.below (below_step hb3 hb4), (blk_below (blk_new (V2.alloc (.cells #[.int .i64 0, .int .i64 0, .slice none 0 0, .slice none 0 0] 66)) (.cells #[.int .i64 0, .int .i64 0, .slice none 0 0, .slice none 0 0] 66)) (Below.refl _ _)), (blk_below (blk_new V2 (.cells #[.int .i64 0, .int .i64 0, .slice none 0 0, .slice none 0 0] 66)) hb4), (Nat.ne_of_gt (blk_lt (blk_below (blk_new V2 (.cells #[.int .i64 0, .int .i64 0, .slice none 0 0, .slice none 0 0] 66)) (Below.refl _ _)))), Below.size hB3, Below.size hB2, hB4⟩)
    ·skip
     refine value_ (w1 := (V1.alloc (.cells #[.int .i64 0, .int .i64 0, .slice none 0 0, .slice none 0 0] 66))) (v := .pointer (some ⟨V1.heap.size, 0, none⟩)) (by rfl) rfl (by first | (go_simp; done) | (go_simp; rfl)) ?_
     have hb2 : Below V1.heap.size V1 (V1.alloc (.cells #[.int .i64 0, .int .i64 0, .slice none 0 0, .slice none 0 0] 66)) := below_alloc (Below.refl _ _) _
     have hB2 := below_step hB1 hb2
     refine hK.out _ _ (hSS _ hB2) (fun hHeld => ?_)
     clear hK K
     refine nm ?_
     refine two_ (i := 3) (j := 5) (Ni := some 21) (Nj := some 10) #[true, true, true, true, true, false, false, false] #[true, true, true, false, true, true, false, false] rfl rfl rfl rfl (by kernel_rfl) (by decide) (by decide) (fun K hK => ?_) (fun K hK => ?_)
     ·skip
      refine goes_ Tryd.func42 (by kernel_rfl) rfl #[.agg #[.int .i64 (t : Int), .int .i64 s', .slice B2 a'.length d2, .slice B3 b'.length d3]] (by rfl) rfl rfl (by (try simp only [List.map_toArray, List.map_cons, List.map_nil]); first | done | rfl) ?_
      with_reducible refine (hc2.out _ hB2).mono ?_
      rintro e V3 ⟨E2, y2, E3, y3, rfl, hM2, hb3⟩
      refine ⟨_, rfl, ?_⟩
      have hB3 := below_step hB2 hb3
      refine hK.out _ _ (hSS _ hB3) (fun hHeld => ?_)
      clear hK K
      refine nm ?_
      refine one_ (i := 5) (N := some 10) (zb 8 63) rfl rfl (by kernel_rfl) (by decide) (fun K hK => ?_)
      refine value_ (w1 := (V3.alloc (.cells #[.int .i64 0, .int .i64 0, .slice none 0 0, .slice none 0 0] 66))) (v := .pointer (some ⟨V3.heap.size, 0, none⟩)) (by rfl) rfl (by first | (go_simp; done) | (go_simp; rfl)) ?_
      have hb4 : Below V3.heap.size V3 (V3.alloc (.cells #[.int .i64 0, .int .i64 0, .slice none 0 0, .slice none 0 0] 66)) := below_alloc (Below.refl _ _) _
      have hB4 := below_step hB3 hb4
      refine hK.out _ _ (hSS _ hB4) (fun hHeld => ?_)
      clear hK K
      refine nm ?_
      exact norm_ (by simp only [putAll, Act.put, List.setIfInBounds_toArray, List.set_cons_zero, List.set_cons_succ]) (hCont (D2, x2, D3, x3, E2, y2, E3, y3, V1.heap.size, V3.heap.size) _ ⟨hM1.below (below_step (below_step hb2 hb3) hb4), hM2.below hb4, (blk_below (blk_new V1 (.cells #[.int .i64 0, .int .i64 0, .slice none 0 0, .slice none 0 0] 66)) (below_step hb3 hb4)), (blk_below (blk_new V3 (.cells #[.int .i64 0, .int .i64 0, .slice none 0 0, .slice none 0 0] 66)) (Below.refl _ _)), (Nat.ne_of_lt (blk_lt (blk_below (blk_new V1 (.cells #[.int .i64 0, .int .i64 0, .slice none 0 0, .slice none 0 0] 66)) hb3))), Below.size hB1, Below.size hB3, hB4⟩)
     ·skip
      refine value_ (w1 := ((V1.alloc (.cells #[.int .i64 0, .int .i64 0, .slice none 0 0, .slice none 0 0] 66)).alloc (.cells #[.int .i64 0, .int .i64 0, .slice none 0 0, .slice none 0 0] 66))) (v := .pointer (some ⟨(V1.alloc (.cells #[.int .i64 0, .int .i64 0, .slice none 0 0, .slice none 0 0] 66)).heap.size, 0, none⟩)) (by rfl) rfl (by first | (go_simp; done) | (go_simp; rfl)) ?_
      have hb3 : Below (V1.alloc (.cells #[.int .i64 0, .int .i64 0, .slice none 0 0, .slice none 0 0] 66)).heap.size (V1.alloc (.cells #[.int .i64 0, .int .i64 0, .slice none 0 0, .slice none 0 0] 66)) ((V1.alloc (.cells #[.int .i64 0, .int .i64 0, .slice none 0 0, .slice none 0 0] 66)).alloc (.cells #[.int .i64 0, .int .i64 0, .slice none 0 0, .slice none 0 0] 66)) := below_alloc (Below.refl _ _) _
      have hB3 := below_step hB2 hb3
      refine hK.out _ _ (hSS _ hB3) (fun hHeld => ?_)
      clear hK K
      refine nm ?_
      refine one_ (i := 3) (N := some 21) (zb 8 63) rfl rfl (by kernel_rfl) (by decide) (fun K hK => ?_)
      refine goes_ Tryd.func42 (by kernel_rfl) rfl #[.agg #[.int .i64 (t : Int), .int .i64 s', .slice B2 a'.length d2, .slice B3 b'.length d3]] (by rfl) rfl rfl (by (try simp only [List.map_toArray, List.map_cons, List.map_nil]); first | done | rfl) ?_
      with_reducible refine (hc2.out _ hB3).mono ?_
      rintro e V4 ⟨E2, y2, E3, y3, rfl, hM2, hb4⟩
      refine ⟨_, rfl, ?_⟩
      have hB4 := below_step hB3 hb4
      refine hK.out _ _ (hSS _ hB4) (fun hHeld => ?_)
      clear hK K
      refine nm ?_
      exact norm_ (by simp only [putAll, Act.put, List.setIfInBounds_toArray, List.set_cons_zero, List.set_cons_succ]) (hCont (D2, x2, D3, x3, E2, y2, E3, y3, V1.heap.size, (V1.alloc (.cells #[.int .i64 0, .int .i64 0, .slice none 0 0, .slice none 0 0] 66)).heap.size) _ ⟨hM1.below (below_step (below_step hb2 hb3) hb4), hM2.below (Below.refl _ _), (blk_below (blk_new V1 (.cells #[.int .i64 0, .int .i64 0, .slice none 0 0, .slice none 0 0] 66)) (below_step hb3 hb4)), (blk_below (blk_new (V1.alloc (.cells #[.int .i64 0, .int .i64 0, .slice none 0 0, .slice none 0 0] 66)) (.cells #[.int .i64 0, .int .i64 0, .slice none 0 0, .slice none 0 0] 66)) hb4), (Nat.ne_of_lt (blk_lt (blk_below (blk_new V1 (.cells #[.int .i64 0, .int .i64 0, .slice none 0 0, .slice none 0 0] 66)) (Below.refl _ _)))), Below.size hB1, Below.size hB2, hB4⟩)
    ·skip
     refine value_ (w1 := (V1.alloc (.cells #[.int .i64 0, .int .i64 0, .slice none 0 0, .slice none 0 0] 66))) (v := .pointer (some ⟨V1.heap.size, 0, none⟩)) (by rfl) rfl (by first | (go_simp; done) | (go_simp; rfl)) ?_
     have hb2 : Below V1.heap.size V1 (V1.alloc (.cells #[.int .i64 0, .int .i64 0, .slice none 0 0, .slice none 0 0] 66)) := below_alloc (Below.refl _ _) _
     have hB2 := below_step hB1 hb2
     refine hK.out _ _ (hSS _ hB2) (fun hHeld => ?_)
     clear hK K
     refine nm ?_
     refine two_ (i := 3) (j := 4) (Ni := some 21) (Nj := some 9) #[true, true, true, true, false, true, false, false] #[true, true, true, false, true, true, false, false] rfl rfl rfl rfl (by kernel_rfl) (by decide) (by decide) (fun K hK => ?_) (fun K hK => ?_)
     ·skip
      refine goes_ Tryd.func42 (by kernel_rfl) rfl #[.agg #[.int .i64 (t : Int), .int .i64 s', .slice B2 a'.length d2, .slice B3 b'.length d3]] (by rfl) rfl rfl (by (try simp only [List.map_toArray, List.map_cons, List.map_nil]); first | done | rfl) ?_
      with_reducible refine (hc2.out _ hB2).mono ?_
      rintro e V3 ⟨E2, y2, E3, y3, rfl, hM2, hb3⟩
      refine ⟨_, rfl, ?_⟩
      have hB3 := below_step hB2 hb3
      refine hK.out _ _ (hSS _ hB3) (fun hHeld => ?_)
      clear hK K
      refine nm ?_
      refine one_ (i := 4) (N := some 9) (zb 8 63) rfl rfl (by kernel_rfl) (by decide) (fun K hK => ?_)
      refine value_ (w1 := (V3.alloc (.cells #[.int .i64 0, .int .i64 0, .slice none 0 0, .slice none 0 0] 66))) (v := .pointer (some ⟨V3.heap.size, 0, none⟩)) (by rfl) rfl (by first | (go_simp; done) | (go_simp; rfl)) ?_
      have hb4 : Below V3.heap.size V3 (V3.alloc (.cells #[.int .i64 0, .int .i64 0, .slice none 0 0, .slice none 0 0] 66)) := below_alloc (Below.refl _ _) _
      have hB4 := below_step hB3 hb4
      refine hK.out _ _ (hSS _ hB4) (fun hHeld => ?_)
      clear hK K
      refine nm ?_
      exact norm_ (by simp only [putAll, Act.put, List.setIfInBounds_toArray, List.set_cons_zero, List.set_cons_succ]) (hCont (D2, x2, D3, x3, E2, y2, E3, y3, V3.heap.size, V1.heap.size) _ ⟨hM1.below (below_step (below_step hb2 hb3) hb4), hM2.below hb4, (blk_below (blk_new V3 (.cells #[.int .i64 0, .int .i64 0, .slice none 0 0, .slice none 0 0] 66)) (Below.refl _ _)), (blk_below (blk_new V1 (.cells #[.int .i64 0, .int .i64 0, .slice none 0 0, .slice none 0 0] 66)) (below_step hb3 hb4)), (Nat.ne_of_gt (blk_lt (blk_below (blk_new V1 (.cells #[.int .i64 0, .int .i64 0, .slice none 0 0, .slice none 0 0] 66)) hb3))), Below.size hB3, Below.size hB1, hB4⟩)
     ·skip
      refine value_ (w1 := ((V1.alloc (.cells #[.int .i64 0, .int .i64 0, .slice none 0 0, .slice none 0 0] 66)).alloc (.cells #[.int .i64 0, .int .i64 0, .slice none 0 0, .slice none 0 0] 66))) (v := .pointer (some ⟨(V1.alloc (.cells #[.int .i64 0, .int .i64 0, .slice none 0 0, .slice none 0 0] 66)).heap.size, 0, none⟩)) (by rfl) rfl (by first | (go_simp; done) | (go_simp; rfl)) ?_
      have hb3 : Below (V1.alloc (.cells #[.int .i64 0, .int .i64 0, .slice none 0 0, .slice none 0 0] 66)).heap.size (V1.alloc (.cells #[.int .i64 0, .int .i64 0, .slice none 0 0, .slice none 0 0] 66)) ((V1.alloc (.cells #[.int .i64 0, .int .i64 0, .slice none 0 0, .slice none 0 0] 66)).alloc (.cells #[.int .i64 0, .int .i64 0, .slice none 0 0, .slice none 0 0] 66)) := below_alloc (Below.refl _ _) _
      have hB3 := below_step hB2 hb3
      refine hK.out _ _ (hSS _ hB3) (fun hHeld => ?_)
      clear hK K
      refine nm ?_
      refine one_ (i := 3) (N := some 21) (zb 8 63) rfl rfl (by kernel_rfl) (by decide) (fun K hK => ?_)
      refine goes_ Tryd.func42 (by kernel_rfl) rfl #[.agg #[.int .i64 (t : Int), .int .i64 s', .slice B2 a'.length d2, .slice B3 b'.length d3]] (by rfl) rfl rfl (by (try simp only [List.map_toArray, List.map_cons, List.map_nil]); first | done | rfl) ?_
      with_reducible refine (hc2.out _ hB3).mono ?_
      rintro e V4 ⟨E2, y2, E3, y3, rfl, hM2, hb4⟩
      refine ⟨_, rfl, ?_⟩
      have hB4 := below_step hB3 hb4
      refine hK.out _ _ (hSS _ hB4) (fun hHeld => ?_)
      clear hK K
      refine nm ?_
      exact norm_ (by simp only [putAll, Act.put, List.setIfInBounds_toArray, List.set_cons_zero, List.set_cons_succ]) (hCont (D2, x2, D3, x3, E2, y2, E3, y3, (V1.alloc (.cells #[.int .i64 0, .int .i64 0, .slice none 0 0, .slice none 0 0] 66)).heap.size, V1.heap.size) _ ⟨hM1.below (below_step (below_step hb2 hb3) hb4), hM2.below (Below.refl _ _), (blk_below (blk_new (V1.alloc (.cells #[.int .i64 0, .int .i64 0, .slice none 0 0, .slice none 0 0] 66)) (.cells #[.int .i64 0, .int .i64 0, .slice none 0 0, .slice none 0 0] 66)) hb4), (blk_below (blk_new V1 (.cells #[.int .i64 0, .int .i64 0, .slice none 0 0, .slice none 0 0] 66)) (below_step hb3 hb4)), (Nat.ne_of_gt (blk_lt (blk_below (blk_new V1 (.cells #[.int .i64 0, .int .i64 0, .slice none 0 0, .slice none 0 0] 66)) (Below.refl _ _)))), Below.size hB2, Below.size hB1, hB4⟩)
   ·skip
    refine value_ (w1 := (w2.drew.alloc (.cells #[.int .i64 0, .int .i64 0, .slice none 0 0, .slice none 0 0] 66))) (v := .pointer (some ⟨w2.drew.heap.size, 0, none⟩)) (by rfl) rfl (by first | (go_simp; done) | (go_simp; rfl)) ?_
    have hb1 : Below w2.drew.heap.size w2.drew (w2.drew.alloc (.cells #[.int .i64 0, .int .i64 0, .slice none 0 0, .slice none 0 0] 66)) := below_alloc (Below.refl _ _) _
    have hB1 := below_step hB0 hb1
    refine hK.out _ _ (hSS _ hB1) (fun hHeld => ?_)
    clear hK K
    refine nm ?_
    refine two_ (i := 1) (j := 5) (Ni := some 19) (Nj := some 10) #[true, true, true, false, true, false, false, false] #[true, false, true, false, true, true, false, false] rfl rfl rfl rfl (by kernel_rfl) (by decide) (by decide) (fun K hK => ?_) (fun K hK => ?_)
    ·skip
     refine goes_ Tryd.func42 (by kernel_rfl) rfl #[.agg #[.int .i64 (t : Int), .int .i64 s, .slice A2 a.length c2, .slice A3 b.length c3]] (by rfl) rfl rfl (by (try simp only [List.map_toArray, List.map_cons, List.map_nil]); first | done | rfl) ?_
     with_reducible refine (hc1.out _ hB1).mono ?_
     rintro e V2 ⟨D2, x2, D3, x3, rfl, hM1, hb2⟩
     refine ⟨_, rfl, ?_⟩
     have hB2 := below_step hB1 hb2
     refine hK.out _ _ (hSS _ hB2) (fun hHeld => ?_)
     clear hK K
     refine nm ?_
     refine two_ (i := 3) (j := 5) (Ni := some 21) (Nj := some 10) #[true, true, true, true, true, false, false, false] #[true, true, true, false, true, true, false, false] rfl rfl rfl rfl (by kernel_rfl) (by decide) (by decide) (fun K hK => ?_) (fun K hK => ?_)
     ·skip
      refine goes_ Tryd.func42 (by kernel_rfl) rfl #[.agg #[.int .i64 (t : Int), .int .i64 s', .slice B2 a'.length d2, .slice B3 b'.length d3]] (by rfl) rfl rfl (by (try simp only [List.map_toArray, List.map_cons, List.map_nil]); first | done | rfl) ?_
      with_reducible refine (hc2.out _ hB2).mono ?_
      rintro e V3 ⟨E2, y2, E3, y3, rfl, hM2, hb3⟩
      refine ⟨_, rfl, ?_⟩
      have hB3 := below_step hB2 hb3
      refine hK.out _ _ (hSS _ hB3) (fun hHeld => ?_)
      clear hK K
      refine nm ?_
      refine one_ (i := 5) (N := some 10) (zb 8 63) rfl rfl (by kernel_rfl) (by decide) (fun K hK => ?_)
      refine value_ (w1 := (V3.alloc (.cells #[.int .i64 0, .int .i64 0, .slice none 0 0, .slice none 0 0] 66))) (v := .pointer (some ⟨V3.heap.size, 0, none⟩)) (by rfl) rfl (by first | (go_simp; done) | (go_simp; rfl)) ?_
      have hb4 : Below V3.heap.size V3 (V3.alloc (.cells #[.int .i64 0, .int .i64 0, .slice none 0 0, .slice none 0 0] 66)) := below_alloc (Below.refl _ _) _
      have hB4 := below_step hB3 hb4
      refine hK.out _ _ (hSS _ hB4) (fun hHeld => ?_)
      clear hK K
      refine nm ?_
      exact norm_ (by simp only [putAll, Act.put, List.setIfInBounds_toArray, List.set_cons_zero, List.set_cons_succ]) (hCont (D2, x2, D3, x3, E2, y2, E3, y3, w2.drew.heap.size, V3.heap.size) _ ⟨hM1.below (below_step hb3 hb4), hM2.below hb4, (blk_below (blk_new w2.drew (.cells #[.int .i64 0, .int .i64 0, .slice none 0 0, .slice none 0 0] 66)) (below_step (below_step hb2 hb3) hb4)), (blk_below (blk_new V3 (.cells #[.int .i64 0, .int .i64 0, .slice none 0 0, .slice none 0 0] 66)) (Below.refl _ _)), (Nat.ne_of_lt (blk_lt (blk_below (blk_new w2.drew (.cells #[.int .i64 0, .int .i64 0, .slice none 0 0, .slice none 0 0] 66)) (below_step hb2 hb3)))), Below.size hB0, Below.size hB3, hB4⟩)
     ·skip
      refine value_ (w1 := (V2.alloc (.cells #[.int .i64 0, .int .i64 0, .slice none 0 0, .slice none 0 0] 66))) (v := .pointer (some ⟨V2.heap.size, 0, none⟩)) (by rfl) rfl (by first | (go_simp; done) | (go_simp; rfl)) ?_
      have hb3 : Below V2.heap.size V2 (V2.alloc (.cells #[.int .i64 0, .int .i64 0, .slice none 0 0, .slice none 0 0] 66)) := below_alloc (Below.refl _ _) _
      have hB3 := below_step hB2 hb3
      refine hK.out _ _ (hSS _ hB3) (fun hHeld => ?_)
      clear hK K
      refine nm ?_
      refine one_ (i := 3) (N := some 21) (zb 8 63) rfl rfl (by kernel_rfl) (by decide) (fun K hK => ?_)
      refine goes_ Tryd.func42 (by kernel_rfl) rfl #[.agg #[.int .i64 (t : Int), .int .i64 s', .slice B2 a'.length d2, .slice B3 b'.length d3]] (by rfl) rfl rfl (by (try simp only [List.map_toArray, List.map_cons, List.map_nil]); first | done | rfl) ?_
      with_reducible refine (hc2.out _ hB3).mono ?_
      rintro e V4 ⟨E2, y2, E3, y3, rfl, hM2, hb4⟩
      refine ⟨_, rfl, ?_⟩
      have hB4 := below_step hB3 hb4
      refine hK.out _ _ (hSS _ hB4) (fun hHeld => ?_)
      clear hK K
      refine nm ?_
      exact norm_ (by simp only [putAll, Act.put, List.setIfInBounds_toArray, List.set_cons_zero, List.set_cons_succ]) (hCont (D2, x2, D3, x3, E2, y2, E3, y3, w2.drew.heap.size, V2.heap.size) _ ⟨hM1.below (below_step hb3 hb4), hM2.below (Below.refl _ _), (blk_below (blk_new w2.drew (.cells #[.int .i64 0, .int .i64 0, .slice none 0 0, .slice none 0 0] 66)) (below_step (below_step hb2 hb3) hb4)), (blk_below (blk_new V2 (.cells #[.int .i64 0, .int .i64 0, .slice none 0 0, .slice none 0 0] 66)) hb4), (Nat.ne_of_lt (blk_lt (blk_below (blk_new w2.drew (.cells #[.int .i64 0, .int .i64 0, .slice none 0 0, .slice none 0 0] 66)) hb2))), Below.size hB0, Below.size hB2, hB4⟩)
    ·skip
     refine value_ (w1 := ((w2.drew.alloc (.cells #[.int .i64 0, .int .i64 0, .slice none 0 0, .slice none 0 0] 66)).alloc (.cells #[.int .i64 0, .int .i64 0, .slice none 0 0, .slice none 0 0] 66))) (v := .pointer (some ⟨(w2.drew.alloc (.cells #[.int .i64 0, .int .i64 0, .slice none 0 0, .slice none 0 0] 66)).heap.size, 0, none⟩)) (by rfl) rfl (by first | (go_simp; done) | (go_simp; rfl)) ?_
     have hb2 : Below (w2.drew.alloc (.cells #[.int .i64 0, .int .i64 0, .slice none 0 0, .slice none 0 0] 66)).heap.size (w2.drew.alloc (.cells #[.int .i64 0, .int .i64 0, .slice none 0 0, .slice none 0 0] 66)) ((w2.drew.alloc (.cells #[.int .i64 0, .int .i64 0, .slice none 0 0, .slice none 0 0] 66)).alloc (.cells #[.int .i64 0, .int .i64 0, .slice none 0 0, .slice none 0 0] 66)) := below_alloc (Below.refl _ _) _
     have hB2 := below_step hB1 hb2
     refine hK.out _ _ (hSS _ hB2) (fun hHeld => ?_)
     clear hK K
     refine nm ?_
     refine one_ (i := 1) (N := some 19) (zb 8 55) rfl rfl (by kernel_rfl) (by decide) (fun K hK => ?_)
     refine goes_ Tryd.func42 (by kernel_rfl) rfl #[.agg #[.int .i64 (t : Int), .int .i64 s, .slice A2 a.length c2, .slice A3 b.length c3]] (by rfl) rfl rfl (by (try simp only [List.map_toArray, List.map_cons, List.map_nil]); first | done | rfl) ?_
     with_reducible refine (hc1.out _ hB2).mono ?_
     rintro e V3 ⟨D2, x2, D3, x3, rfl, hM1, hb3⟩
     refine ⟨_, rfl, ?_⟩
     have hB3 := below_step hB2 hb3
     refine hK.out _ _ (hSS _ hB3) (fun hHeld => ?_)
     clear hK K
     refine nm ?_
     refine one_ (i := 3) (N := some 21) (zb 8 63) rfl rfl (by kernel_rfl) (by decide) (fun K hK => ?_)
     refine goes_ Tryd.func42 (by kernel_rfl) rfl #[.agg #[.int .i64 (t : Int), .int .i64 s', .slice B2 a'.length d2, .slice B3 b'.length d3]] (by rfl) rfl rfl (by (try simp only [List.map_toArray, List.map_cons, List.map_nil]); first | done | rfl) ?_
     with_reducible refine (hc2.out _ hB3).mono ?_
     rintro e V4 ⟨E2, y2, E3, y3, rfl, hM2, hb4⟩
     refine ⟨_, rfl, ?_⟩
     have hB4 := below_step hB3 hb4
     refine hK.out _ _ (hSS _ hB4) (fun hHeld => ?_)
     clear hK K
     refine nm ?_
     exact norm_ (by simp only [putAll, Act.put, List.setIfInBounds_toArray, List.set_cons_zero, List.set_cons_succ]) (hCont (D2, x2, D3, x3, E2, y2, E3, y3, w2.drew.heap.size, (w2.drew.alloc (.cells #[.int .i64 0, .int .i64 0, .slice none 0 0, .slice none 0 0] 66)).heap.size) _ ⟨hM1.below hb4, hM2.below (Below.refl _ _), (blk_below (blk_new w2.drew (.cells #[.int .i64 0, .int .i64 0, .slice none 0 0, .slice none 0 0] 66)) (below_step (below_step hb2 hb3) hb4)), (blk_below (blk_new (w2.drew.alloc (.cells #[.int .i64 0, .int .i64 0, .slice none 0 0, .slice none 0 0] 66)) (.cells #[.int .i64 0, .int .i64 0, .slice none 0 0, .slice none 0 0] 66)) (below_step hb3 hb4)), (Nat.ne_of_lt (blk_lt (blk_below (blk_new w2.drew (.cells #[.int .i64 0, .int .i64 0, .slice none 0 0, .slice none 0 0] 66)) (Below.refl _ _)))), Below.size hB0, Below.size hB1, hB4⟩)
   ·skip
    refine value_ (w1 := (w2.drew.alloc (.cells #[.int .i64 0, .int .i64 0, .slice none 0 0, .slice none 0 0] 66))) (v := .pointer (some ⟨w2.drew.heap.size, 0, none⟩)) (by rfl) rfl (by first | (go_simp; done) | (go_simp; rfl)) ?_
    have hb1 : Below w2.drew.heap.size w2.drew (w2.drew.alloc (.cells #[.int .i64 0, .int .i64 0, .slice none 0 0, .slice none 0 0] 66)) := below_alloc (Below.refl _ _) _
    have hB1 := below_step hB0 hb1
    refine hK.out _ _ (hSS _ hB1) (fun hHeld => ?_)
    clear hK K
    refine nm ?_
    refine two_ (i := 1) (j := 4) (Ni := some 19) (Nj := some 9) #[true, true, true, false, false, true, false, false] #[true, false, true, false, true, true, false, false] rfl rfl rfl rfl (by kernel_rfl) (by decide) (by decide) (fun K hK => ?_) (fun K hK => ?_)
    ·skip
     refine goes_ Tryd.func42 (by kernel_rfl) rfl #[.agg #[.int .i64 (t : Int), .int .i64 s, .slice A2 a.length c2, .slice A3 b.length c3]] (by rfl) rfl rfl (by (try simp only [List.map_toArray, List.map_cons, List.map_nil]); first | done | rfl) ?_
     with_reducible refine (hc1.out _ hB1).mono ?_
     rintro e V2 ⟨D2, x2, D3, x3, rfl, hM1, hb2⟩
     refine ⟨_, rfl, ?_⟩
     have hB2 := below_step hB1 hb2
     refine hK.out _ _ (hSS _ hB2) (fun hHeld => ?_)
     clear hK K
     refine nm ?_
     refine two_ (i := 3) (j := 4) (Ni := some 21) (Nj := some 9) #[true, true, true, true, false, true, false, false] #[true, true, true, false, true, true, false, false] rfl rfl rfl rfl (by kernel_rfl) (by decide) (by decide) (fun K hK => ?_) (fun K hK => ?_)
     ·skip
      refine goes_ Tryd.func42 (by kernel_rfl) rfl #[.agg #[.int .i64 (t : Int), .int .i64 s', .slice B2 a'.length d2, .slice B3 b'.length d3]] (by rfl) rfl rfl (by (try simp only [List.map_toArray, List.map_cons, List.map_nil]); first | done | rfl) ?_
      with_reducible refine (hc2.out _ hB2).mono ?_
      rintro e V3 ⟨E2, y2, E3, y3, rfl, hM2, hb3⟩
      refine ⟨_, rfl, ?_⟩
      have hB3 := below_step hB2 hb3
      refine hK.out _ _ (hSS _ hB3) (fun hHeld => ?_)
      clear hK K
      refine nm ?_
      refine one_ (i := 4) (N := some 9) (zb 8 63) rfl rfl (by kernel_rfl) (by decide) (fun K hK => ?_)
      refine value_ (w1 := (V3.alloc (.cells #[.int .i64 0, .int .i64 0, .slice none 0 0, .slice none 0 0] 66))) (v := .pointer (some ⟨V3.heap.size, 0, none⟩)) (by rfl) rfl (by first | (go_simp; done) | (go_simp; rfl)) ?_
      have hb4 : Below V3.heap.size V3 (V3.alloc (.cells #[.int .i64 0, .int .i64 0, .slice none 0 0, .slice none 0 0] 66)) := below_alloc (Below.refl _ _) _
      have hB4 := below_step hB3 hb4
      refine hK.out _ _ (hSS _ hB4) (fun hHeld => ?_)
      clear hK K
      refine nm ?_
      exact norm_ (by simp only [putAll, Act.put, List.setIfInBounds_toArray, List.set_cons_zero, List.set_cons_succ]) (hCont (D2, x2, D3, x3, E2, y2, E3, y3, V3.heap.size, w2.drew.heap.size) _ ⟨hM1.below (below_step hb3 hb4), hM2.below hb4, (blk_below (blk_new V3 (.cells #[.int .i64 0, .int .i64 0, .slice none 0 0, .slice none 0 0] 66)) (Below.refl _ _)), (blk_below (blk_new w2.drew (.cells #[.int .i64 0, .int .i64 0, .slice none 0 0, .slice none 0 0] 66)) (below_step (below_step hb2 hb3) hb4)), (Nat.ne_of_gt (blk_lt (blk_below (blk_new w2.drew (.cells #[.int .i64 0, .int .i64 0, .slice none 0 0, .slice none 0 0] 66)) (below_step hb2 hb3)))), Below.size hB3, Below.size hB0, hB4⟩)
     ·skip
      refine value_ (w1 := (V2.alloc (.cells #[.int .i64 0, .int .i64 0, .slice none 0 0, .slice none 0 0] 66))) (v := .pointer (some ⟨V2.heap.size, 0, none⟩)) (by rfl) rfl (by first | (go_simp; done) | (go_simp; rfl)) ?_
      have hb3 : Below V2.heap.size V2 (V2.alloc (.cells #[.int .i64 0, .int .i64 0, .slice none 0 0, .slice none 0 0] 66)) := below_alloc (Below.refl _ _) _
      have hB3 := below_step hB2 hb3
      refine hK.out _ _ (hSS _ hB3) (fun hHeld => ?_)
      clear hK K
      refine nm ?_
      refine one_ (i := 3) (N := some 21) (zb 8 63) rfl rfl (by kernel_rfl) (by decide) (fun K hK => ?_)
      refine goes_ Tryd.func42 (by kernel_rfl) rfl #[.agg #[.int .i64 (t : Int), .int .i64 s', .slice B2 a'.length d2, .slice B3 b'.length d3]] (by rfl) rfl rfl (by (try simp only [List.map_toArray, List.map_cons, List.map_nil]); first | done | rfl) ?_
      with_reducible refine (hc2.out _ hB3).mono ?_
      rintro e V4 ⟨E2, y2, E3, y3, rfl, hM2, hb4⟩
      refine ⟨_, rfl, ?_⟩
      have hB4 := below_step hB3 hb4
      refine hK.out _ _ (hSS _ hB4) (fun hHeld => ?_)
      clear hK K
      refine nm ?_
      exact norm_ (by simp only [putAll, Act.put, List.setIfInBounds_toArray, List.set_cons_zero, List.set_cons_succ]) (hCont (D2, x2, D3, x3, E2, y2, E3, y3, V2.heap.size, w2.drew.heap.size) _ ⟨hM1.below (below_step hb3 hb4), hM2.below (Below.refl _ _), (blk_below (blk_new V2 (.cells #[.int .i64 0, .int .i64 0, .slice none 0 0, .slice none 0 0] 66)) hb4), (blk_below (blk_new w2.drew (.cells #[.int .i64 0, .int .i64 0, .slice none 0 0, .slice none 0 0] 66)) (below_step (below_step hb2 hb3) hb4)), (Nat.ne_of_gt (blk_lt (blk_below (blk_new w2.drew (.cells #[.int .i64 0, .int .i64 0, .slice none 0 0, .slice none 0 0] 66)) hb2))), Below.size hB2, Below.size hB0, hB4⟩)
    ·skip
     refine value_ (w1 := ((w2.drew.alloc (.cells #[.int .i64 0, .int .i64 0, .slice none 0 0, .slice none 0 0] 66)).alloc (.cells #[.int .i64 0, .int .i64 0, .slice none 0 0, .slice none 0 0] 66))) (v := .pointer (some ⟨(w2.drew.alloc (.cells #[.int .i64 0, .int .i64 0, .slice none 0 0, .slice none 0 0] 66)).heap.size, 0, none⟩)) (by rfl) rfl (by first | (go_simp; done) | (go_simp; rfl)) ?_
     have hb2 : Below (w2.drew.alloc (.cells #[.int .i64 0, .int .i64 0, .slice none 0 0, .slice none 0 0] 66)).heap.size (w2.drew.alloc (.cells #[.int .i64 0, .int .i64 0, .slice none 0 0, .slice none 0 0] 66)) ((w2.drew.alloc (.cells #[.int .i64 0, .int .i64 0, .slice none 0 0, .slice none 0 0] 66)).alloc (.cells #[.int .i64 0, .int .i64 0, .slice none 0 0, .slice none 0 0] 66)) := below_alloc (Below.refl _ _) _
     have hB2 := below_step hB1 hb2
     refine hK.out _ _ (hSS _ hB2) (fun hHeld => ?_)
     clear hK K
     refine nm ?_
     refine one_ (i := 1) (N := some 19) (zb 8 55) rfl rfl (by kernel_rfl) (by decide) (fun K hK => ?_)
     refine goes_ Tryd.func42 (by kernel_rfl) rfl #[.agg #[.int .i64 (t : Int), .int .i64 s, .slice A2 a.length c2, .slice A3 b.length c3]] (by rfl) rfl rfl (by (try simp only [List.map_toArray, List.map_cons, List.map_nil]); first | done | rfl) ?_
     with_reducible refine (hc1.out _ hB2).mono ?_
     rintro e V3 ⟨D2, x2, D3, x3, rfl, hM1, hb3⟩
     refine ⟨_, rfl, ?_⟩
     have hB3 := below_step hB2 hb3
     refine hK.out _ _ (hSS _ hB3) (fun hHeld => ?_)
     clear hK K
     refine nm ?_
     refine one_ (i := 3) (N := some 21) (zb 8 63) rfl rfl (by kernel_rfl) (by decide) (fun K hK => ?_)
     refine goes_ Tryd.func42 (by kernel_rfl) rfl #[.agg #[.int .i64 (t : Int), .int .i64 s', .slice B2 a'.length d2, .slice B3 b'.length d3]] (by rfl) rfl rfl (by (try simp only [List.map_toArray, List.map_cons, List.map_nil]); first | done | rfl) ?_
     with_reducible refine (hc2.out _ hB3).mono ?_
     rintro e V4 ⟨E2, y2, E3, y3, rfl, hM2, hb4⟩
     refine ⟨_, rfl, ?_⟩
     have hB4 := below_step hB3 hb4
     refine hK.out _ _ (hSS _ hB4) (fun hHeld => ?_)
     clear hK K
     refine nm ?_
     exact norm_ (by simp only [putAll, Act.put, List.setIfInBounds_toArray, List.set_cons_zero, List.set_cons_succ]) (hCont (D2, x2, D3, x3, E2, y2, E3, y3, (w2.drew.alloc (.cells #[.int .i64 0, .int .i64 0, .slice none 0 0, .slice none 0 0] 66)).heap.size, w2.drew.heap.size) _ ⟨hM1.below hb4, hM2.below (Below.refl _ _), (blk_below (blk_new (w2.drew.alloc (.cells #[.int .i64 0, .int .i64 0, .slice none 0 0, .slice none 0 0] 66)) (.cells #[.int .i64 0, .int .i64 0, .slice none 0 0, .slice none 0 0] 66)) (below_step hb3 hb4)), (blk_below (blk_new w2.drew (.cells #[.int .i64 0, .int .i64 0, .slice none 0 0, .slice none 0 0] 66)) (below_step (below_step hb2 hb3) hb4)), (Nat.ne_of_gt (blk_lt (blk_below (blk_new w2.drew (.cells #[.int .i64 0, .int .i64 0, .slice none 0 0, .slice none 0 0] 66)) (Below.refl _ _)))), Below.size hB1, Below.size hB0, hB4⟩)
  rintro ⟨D2, x2, D3, x3, E2, y2, E3, y3, g9, g10⟩ W ⟨hM1, hM2, b9, b10, hne, l9, l10, hBW⟩
  dsimp only at hM1 hM2 b9 b10 hne l9 l10 ⊢
  refine norm_ (a' := ?_) ?_ ?_
  rotate_left
  ·simp only [putAll, Act.put, List.setIfInBounds_toArray, List.set_cons_zero, List.set_cons_succ, i64_w, i32_w]
   rfl
  have e0 : W.cell? ⟨g9, 0, none⟩ = some (.int .i64 0) := (blk_cell b9 0).trans rfl
  have f0 : W.frozen? ⟨g9, 0, none⟩ = false := blk_frozen b9 0
  have e1 : W.cell? ⟨g9, 1, none⟩ = some (.int .i64 0) := (blk_cell b9 1).trans rfl
  have f1 : W.frozen? ⟨g9, 1, none⟩ = false := blk_frozen b9 1
  have e2 : W.cell? ⟨g9, 2, none⟩ = some (.slice none 0 0) := (blk_cell b9 2).trans rfl
  have f2 : W.frozen? ⟨g9, 2, none⟩ = false := blk_frozen b9 2
  have e3 : W.cell? ⟨g9, 3, none⟩ = some (.slice none 0 0) := (blk_cell b9 3).trans rfl
  have f3 : W.frozen? ⟨g9, 3, none⟩ = false := blk_frozen b9 3
  refine last_ (i := 6) (N := none) (zb 8 127) rfl rfl (by kernel_rfl) (by decide) (fun K hK => ?_)
  refine sk (((((W.setCell ⟨g9, 0, none⟩ (.int .i64 (t : Int))).setCell ⟨g9, 1, none⟩ (.int .i64 0)).setCell ⟨g9, 2, none⟩ (.slice D2 n1 x2)).setCell ⟨g9, 3, none⟩ (.slice D3 n1 x3))) ?_
  refine hK.out _ _ ?_
  clear hK K e0 e1 e2 e3 f0 f1 f2 f3
  have c9 : ((((W.setCell ⟨g9, 0, none⟩ (.int .i64 (t : Int))).setCell ⟨g9, 1, none⟩ (.int .i64 0)).setCell ⟨g9, 2, none⟩ (.slice D2 n1 x2)).setCell ⟨g9, 3, none⟩ (.slice D3 n1 x3)).heap[g9]? = some (.cells #[.int .i64 (t : Int), .int .i64 0, .slice D2 n1 x2, .slice D3 n1 x3] 66 (0, 0)) := blk_put (blk_put (blk_put (blk_put b9 0 _ rfl) 1 _ rfl) 2 _ rfl) 3 _ rfl
  have c10 : ((((W.setCell ⟨g9, 0, none⟩ (.int .i64 (t : Int))).setCell ⟨g9, 1, none⟩ (.int .i64 0)).setCell ⟨g9, 2, none⟩ (.slice D2 n1 x2)).setCell ⟨g9, 3, none⟩ (.slice D3 n1 x3)).heap[g10]? = some (.cells #[.int .i64 0, .int .i64 0, .slice none 0 0, .slice none 0 0] 66 (0, 0)) := (Keep.set _ ⟨g9, 3, none⟩ _).obj ((Keep.set _ ⟨g9, 2, none⟩ _).obj ((Keep.set _ ⟨g9, 1, none⟩ _).obj ((Keep.set W ⟨g9, 0, none⟩ _).obj b10 (fun e => hne (Option.some.inj e).symm)) (fun e => hne (Option.some.inj e).symm)) (fun e => hne (Option.some.inj e).symm)) (fun e => hne (Option.some.inj e).symm)
  have hBW5 : Below w2.heap.size w2 ((((W.setCell ⟨g9, 0, none⟩ (.int .i64 (t : Int))).setCell ⟨g9, 1, none⟩ (.int .i64 0)).setCell ⟨g9, 2, none⟩ (.slice D2 n1 x2)).setCell ⟨g9, 3, none⟩ (.slice D3 n1 x3)) := below_set (below_set (below_set (below_set hBW (by omega)) (by omega)) (by omega)) (by omega)
  have hMM : Mc w.heap.size ((((W.setCell ⟨g9, 0, none⟩ (.int .i64 (t : Int))).setCell ⟨g9, 1, none⟩ (.int .i64 0)).setCell ⟨g9, 2, none⟩ (.slice D2 n1 x2)).setCell ⟨g9, 3, none⟩ (.slice D3 n1 x3)) n1 M D2 x2 D3 x3 ∧ Mc w.heap.size ((((W.setCell ⟨g9, 0, none⟩ (.int .i64 (t : Int))).setCell ⟨g9, 1, none⟩ (.int .i64 0)).setCell ⟨g9, 2, none⟩ (.slice D2 n1 x2)).setCell ⟨g9, 3, none⟩ (.slice D3 n1 x3)) n2 N E2 y2 E3 y3 := ⟨mc_set (mc_set (mc_set (mc_set hM1 b9 0 _) (blk_put b9 0 _ rfl) 1 _) (blk_put (blk_put b9 0 _ rfl) 1 _ rfl) 2 _) (blk_put (blk_put (blk_put b9 0 _ rfl) 1 _ rfl) 2 _ rfl) 3 _, mc_set (mc_set (mc_set (mc_set hM2 b9 0 _) (blk_put b9 0 _ rfl) 1 _) (blk_put (blk_put b9 0 _ rfl) 1 _ rfl) 2 _) (blk_put (blk_put (blk_put b9 0 _ rfl) 1 _ rfl) 2 _ rfl) 3 _⟩
  clear b9 b10 hBW hM1 hM2
  generalize ((((W.setCell ⟨g9, 0, none⟩ (.int .i64 (t : Int))).setCell ⟨g9, 1, none⟩ (.int .i64 0)).setCell ⟨g9, 2, none⟩ (.slice D2 n1 x2)).setCell ⟨g9, 3, none⟩ (.slice D3 n1 x3)) = W5 at *
  have e0 : W5.cell? ⟨g10, 0, none⟩ = some (.int .i64 0) := (blk_cell c10 0).trans rfl
  have f0 : W5.frozen? ⟨g10, 0, none⟩ = false := blk_frozen c10 0
  have e1 : W5.cell? ⟨g10, 1, none⟩ = some (.int .i64 0) := (blk_cell c10 1).trans rfl
  have f1 : W5.frozen? ⟨g10, 1, none⟩ = false := blk_frozen c10 1
  have e2 : W5.cell? ⟨g10, 2, none⟩ = some (.slice none 0 0) := (blk_cell c10 2).trans rfl
  have f2 : W5.frozen? ⟨g10, 2, none⟩ = false := blk_frozen c10 2
  have e3 : W5.cell? ⟨g10, 3, none⟩ = some (.slice none 0 0) := (blk_cell c10 3).trans rfl
  have f3 : W5.frozen? ⟨g10, 3, none⟩ = false := blk_frozen c10 3
  refine last_ (i := 7) (N := none) (zb 8 255) rfl rfl (by kernel_rfl) (by decide) (fun K hK => ?_)
  refine sk (((((W5.setCell ⟨g10, 0, none⟩ (.int .i64 (t : Int))).setCell ⟨g10, 1, none⟩ (.int .i64 0)).setCell ⟨g10, 2, none⟩ (.slice E2 n2 y2)).setCell ⟨g10, 3, none⟩ (.slice E3 n2 y3))) ?_
  refine hK.out _ _ ?_
  clear hK K e0 e1 e2 e3 f0 f1 f2 f3
  refine dn ?_
  have d10 : ((((W5.setCell ⟨g10, 0, none⟩ (.int .i64 (t : Int))).setCell ⟨g10, 1, none⟩ (.int .i64 0)).setCell ⟨g10, 2, none⟩ (.slice E2 n2 y2)).setCell ⟨g10, 3, none⟩ (.slice E3 n2 y3)).heap[g10]? = some (.cells #[.int .i64 (t : Int), .int .i64 0, .slice E2 n2 y2, .slice E3 n2 y3] 66 (0, 0)) := blk_put (blk_put (blk_put (blk_put c10 0 _ rfl) 1 _ rfl) 2 _ rfl) 3 _ rfl
  have d9 : ((((W5.setCell ⟨g10, 0, none⟩ (.int .i64 (t : Int))).setCell ⟨g10, 1, none⟩ (.int .i64 0)).setCell ⟨g10, 2, none⟩ (.slice E2 n2 y2)).setCell ⟨g10, 3, none⟩ (.slice E3 n2 y3)).heap[g9]? = some (.cells #[.int .i64 (t : Int), .int .i64 0, .slice D2 n1 x2, .slice D3 n1 x3] 66 (0, 0)) := (Keep.set _ ⟨g10, 3, none⟩ _).obj ((Keep.set _ ⟨g10, 2, none⟩ _).obj ((Keep.set _ ⟨g10, 1, none⟩ _).obj ((Keep.set W5 ⟨g10, 0, none⟩ _).obj c9 (fun e => hne (Option.some.inj e))) (fun e => hne (Option.some.inj e))) (fun e => hne (Option.some.inj e))) (fun e => hne (Option.some.inj e))
  have hBW6 : Below w2.heap.size w2 ((((W5.setCell ⟨g10, 0, none⟩ (.int .i64 (t : Int))).setCell ⟨g10, 1, none⟩ (.int .i64 0)).setCell ⟨g10, 2, none⟩ (.slice E2 n2 y2)).setCell ⟨g10, 3, none⟩ (.slice E3 n2 y3)) := below_set (below_set (below_set (below_set hBW5 (by omega)) (by omega)) (by omega)) (by omega)
  have hM6 : Mc w.heap.size ((((W5.setCell ⟨g10, 0, none⟩ (.int .i64 (t : Int))).setCell ⟨g10, 1, none⟩ (.int .i64 0)).setCell ⟨g10, 2, none⟩ (.slice E2 n2 y2)).setCell ⟨g10, 3, none⟩ (.slice E3 n2 y3)) n1 M D2 x2 D3 x3 ∧ Mc w.heap.size ((((W5.setCell ⟨g10, 0, none⟩ (.int .i64 (t : Int))).setCell ⟨g10, 1, none⟩ (.int .i64 0)).setCell ⟨g10, 2, none⟩ (.slice E2 n2 y2)).setCell ⟨g10, 3, none⟩ (.slice E3 n2 y3)) n2 N E2 y2 E3 y3 := ⟨mc_set (mc_set (mc_set (mc_set hMM.1 c10 0 _) (blk_put c10 0 _ rfl) 1 _) (blk_put (blk_put c10 0 _ rfl) 1 _ rfl) 2 _) (blk_put (blk_put (blk_put c10 0 _ rfl) 1 _ rfl) 2 _ rfl) 3 _, mc_set (mc_set (mc_set (mc_set hMM.2 c10 0 _) (blk_put c10 0 _ rfl) 1 _) (blk_put (blk_put c10 0 _ rfl) 1 _ rfl) 2 _) (blk_put (blk_put (blk_put c10 0 _ rfl) 1 _ rfl) 2 _ rfl) 3 _⟩
  clear c9 c10 hBW5 hMM
  generalize ((((W5.setCell ⟨g10, 0, none⟩ (.int .i64 (t : Int))).setCell ⟨g10, 1, none⟩ (.int .i64 0)).setCell ⟨g10, 2, none⟩ (.slice E2 n2 y2)).setCell ⟨g10, 3, none⟩ (.slice E3 n2 y3)) = W6 at *
  obtain ⟨hM1, hM2⟩ := hM6
  have u2 : W6.cell? ⟨g9, 2, none⟩ = some (.slice D2 n1 x2) := (blk_cell d9 2).trans rfl
  have v2 : W6.cell? ⟨g10, 2, none⟩ = some (.slice E2 n2 y2) := (blk_cell d10 2).trans rfl
  have hB6 := below_step hB2 hBW6
  have hZ6 := blk_below hZ2 hBW6
  have hw1 := hw1q.out
  by_cases hlim : n1 * n2 ≤ 1000
  ·have z1 : ((1000 : Int) < (Pq : Int)) = False := eq_false (by have := hPqq.out; omega)
   have hprs : Aside0 (pl.length ≤ 1000) := ⟨Nat.le_trans hplq.out hlim⟩
   have hRRq : Aside0 (toldR (t : Int) (tidL (wdOf t) prws (pl.map (accQ op M.1 N.1)) 0 (padT t)).1 ((tidL (wdOf t) prws (pl.map (accQ op M.1 N.1)) 0 (padT t)).2.map ints) = RR) := ⟨by rw [← hR0q.out, if_pos hlim]⟩
   clear hlim
   have u0 : W6.cell? ⟨g9, 0, none⟩ = some (.int .i64 (t : Int)) := (blk_cell d9 0).trans rfl
   have u1 : W6.cell? ⟨g9, 1, none⟩ = some (.int .i64 0) := (blk_cell d9 1).trans rfl
   have u3 : W6.cell? ⟨g9, 3, none⟩ = some (.slice D3 n1 x3) := (blk_cell d9 3).trans rfl
   have v0 : W6.cell? ⟨g10, 0, none⟩ = some (.int .i64 (t : Int)) := (blk_cell d10 0).trans rfl
   have v1 : W6.cell? ⟨g10, 1, none⟩ = some (.int .i64 0) := (blk_cell d10 1).trans rfl
   have v3 : W6.cell? ⟨g10, 3, none⟩ = some (.slice E3 n2 y3) := (blk_cell d10 3).trans rfl
   have hl1 : Aside0 (M.1.length = n1) := ⟨by rw [← hMq.out.len]; exact hn1q.out⟩
   have hl2 : Aside0 (N.1.length = n2) := ⟨by rw [← hNq.out.len]; exact hn2q.out⟩
   go_wp2_with (first
    | (go_at_call 114; go_loud (
      have q := Pr.pairs t (wdOf t) op fo (by have := wd_le t ht4q.out; omega) (fun W => (impl_widthOf.calls 10 _ _ W (fin_wide _ ht4q.out).1).mono (fun e W' hh => ⟨hh.1, hh.2.below⟩)) M.1 M.2 N.1 N.2 hMq.out hNq.out (by rw [hn1q.out]; exact hM0q.out) (by rw [hn2q.out]; exact hN0q.out) (by rw [hn1q.out, hn2q.out]; have := hsq.out; omega) W6 (fun p q => Pr.ans_below (hopq.out p q) hB6) D2 x2 D3 x3 (by rw [hl1.out]; exact hM1.r2) (by rw [hn1q.out]; exact hM1.r3) (by rw [hl1.out]; exact hM1.l2) (by rw [hn1q.out]; exact hM1.l3) E2 y2 E3 y3 (by rw [hl2.out]; exact hM2.r2) (by rw [hn2q.out]; exact hM2.r3) (by rw [hl2.out]; exact hM2.l2) (by rw [hn2q.out]; exact hM2.l3) pf pl prws hprq.out (by have := hprs.out; omega)
      rw [hl1.out, hn1q.out, hl2.out, hn2q.out] at q
      with_reducible refine q.mono ?_
      clear q
      rintro e w7 ⟨vA, vN, rfl, q2, q3, hb7⟩
      obtain ⟨G2, k4, e2, hk4, r2⟩ := Kd.R_reads q2
      obtain ⟨G3, k5, e3, hk5, r3⟩ := Kd.R_reads q3
      obtain ⟨m4, hm4⟩ : ∃ n, Aside0 ((pl.map (accQ op M.1 N.1)).length = n) := ⟨_, ⟨rfl⟩⟩
      obtain ⟨m5, hm5⟩ : ∃ n, Aside0 ((prws.map ints).length = n) := ⟨_, ⟨rfl⟩⟩
      rw [hm4.out] at e2
      rw [hm5.out] at e3
      subst e2 e3
      have hB7 := below_step hB6 hb7
      clear q2 q3))
    | (go_at_call 63; go_loud (
      have hm5' : prws.length = m5 := (by have := hm5.out; rwa [List.length_map] at this)
      have q := tidied t 0 (pl.map (accQ op M.1 N.1)) prws ht0q.out ht4q.out hp0q.out hpcq.out (by have := hprs.out; have := hpeq.out; omega) w7 (glob_below hGq.out hB7) G2 k4 G3 k5 r2 (by rw [List.length_map] at r3; exact r3) hk4 (by rw [List.length_map] at hk5; exact hk5)
      rw [hRRq.out, hm4.out, hm5', Int.natCast_zero] at q
      with_reducible refine q.mono ?_
      clear q
      rintro e w8 ⟨F2, k2, F3, k3, rfl, hRy, hb8⟩
      have hBy := below_step hB7 hb8
      have b0 : ZBox w8 (w.heap.size + 2) := blk_below (blk_below hZ6 hb7) hb8
      obtain ⟨e0, e1, e2, e3⟩ := box b0
      obtain ⟨f0, f1, f2, f3⟩ := box_open b0)))
   refine bodyPost_ret (results_ct rfl _ _ (w.heap.size + 2) 27 #[.int .i64 RR.t, .int .i64 RR.s, .slice F2 RR.a.length k2, .slice F3 RR.b.length k3] (0, 0) _ rfl (put_box b0) Tryd.underlying27 rfl (by kernel_rfl)) rfl ?_
   exact gives_put hRy b0 hBy (by omega) (Below.size hB7)
  ·obtain rfl : bad 3 = RR := by rw [← hR0q.out, if_neg hlim]
   have z1 : ((1000 : Int) < (Pq : Int)) = True := eq_true (by have := hPqq.out; omega)
   clear hlim
   have b0 : ZBox W6 (w.heap.size + 2) := hZ6
   obtain ⟨e0, e1, e2, e3⟩ := box b0
   obtain ⟨f0, f1, f2, f3⟩ := box_open b0
   go_wp2_with fail
   refine bodyPost_ret (results_ct rfl _ _ (w.heap.size + 2) 27 #[.int .i64 0, .int .i64 0, .slice none 0 0, .slice none 0 0] (0, 0) _ rfl (put_box b0) Tryd.underlying27 rfl (by kernel_rfl)) rfl ?_
   exact bad_put b0 hB6 (by omega)
 ·obtain ⟨C, hC⟩ : ∃ C, two2 t s a b t' s' a' b' = C := ⟨_, rfl⟩
  have e : joinR op t s a b t' s' a' b' = bad C := by unfold joinR; rw [if_neg h0, hC]
  rw [e]
  rw [hC] at h0 htwo
  have x1 : (C == 0) = false := beq_eq_false_iff_ne.mpr h0
  have x2 : (C != 0) = true := bne_iff_ne.mpr h0
  have x3 : (C = 0) = False := eq_false h0
  clear e h0 hC
  go_enter Tryd.func102, Tryd.ntmps102
  go_wp2_with (go_at_call 113; go_loud (
     with_reducible refine htwo.out.mono ?_
     rintro e w2 ⟨rfl, hb2⟩
     have hB2 := below_step hb1 hb2
     have b0 : ZBox w2 (w.heap.size + 2) := blk_below hZ hb2
     obtain ⟨e0, e1, e2, e3⟩ := box b0
     obtain ⟨f0, f1, f2, f3⟩ := box_open b0))
  refine bodyPost_ret (results_ct rfl _ _ (w.heap.size + 2) 27 #[.int .i64 0, .int .i64 0, .slice none 0 0, .slice none 0 0] (0, 0) _ rfl (put_box b0) Tryd.underlying27 rfl (by kernel_rfl)) rfl ?_
  exact bad_put b0 hB2 (by omega)
set_option maxHeartbeats 2000000 in
theorem both_op (p q : Bool) (W : World) : Calls Tryd.prog 103 #[.bool p, .bool q] W fun e W' => e = .returned (.bool (p && q)) ∧ Below W.heap.size W W' := by
 cases p
 ·go_enter Tryd.func103, Tryd.ntmps103
  go_wp2_with fail
  go_ret
  exact ⟨rfl, Below.refl _ _⟩
 ·go_enter Tryd.func103, Tryd.ntmps103
  go_wp2_with fail
  go_ret
  exact ⟨rfl, Below.refl _ _⟩
set_option maxHeartbeats 2000000 in
theorem both_i (t s : Int) (A2 : Option Addr) (c2 : Nat) (a : List Bool) (A3 : Option Addr) (c3 : Nat) (b : List (List Int)) (t' s' : Int) (B2 : Option Addr) (d2 : Nat) (a' : List Bool) (B3 : Option Addr) (d3 : Nat) (b' : List (List Int)) (w : World) (hA : Arg w A2 c2 a A3 c3 b) (hB : Arg w B2 d2 a' B3 d3 b') (hS : Small a b) (hS' : Small a' b') (hG : Glob w) :
  Calls Tryd.prog 75 #[.agg #[.int .i64 t, .int .i64 s, .slice A2 a.length c2, .slice A3 b.length c3], .agg #[.int .i64 t', .int .i64 s', .slice B2 a'.length d2, .slice B3 b'.length d3]] w (Gives (joinR (fun x y => x && y) t s a b t' s' a' b') w) := by
 have hb1 : Below w.heap.size w (((w.alloc (.cells #[.int .i64 t, .int .i64 s, .slice A2 a.length c2, .slice A3 b.length c3] 27)).alloc (.cells #[.int .i64 t', .int .i64 s', .slice B2 a'.length d2, .slice B3 b'.length d3] 27)).alloc (.cells #[.int .i64 0, .int .i64 0, .slice none 0 0, .slice none 0 0] 27)) := below_alloc (below_alloc (below_alloc (Below.refl _ _) _) _) _
 have hZ : ZBox (((w.alloc (.cells #[.int .i64 t, .int .i64 s, .slice A2 a.length c2, .slice A3 b.length c3] 27)).alloc (.cells #[.int .i64 t', .int .i64 s', .slice B2 a'.length d2, .slice B3 b'.length d3] 27)).alloc (.cells #[.int .i64 0, .int .i64 0, .slice none 0 0, .slice none 0 0] 27)) (w.heap.size + 2) := blk_at _ _ _ (by simp)
 have hj := Aside0.mk (joined_i (fun x y => x && y) 103 t s A2 c2 a A3 c3 b t' s' B2 d2 a' B3 d3 b' (((w.alloc (.cells #[.int .i64 t, .int .i64 s, .slice A2 a.length c2, .slice A3 b.length c3] 27)).alloc (.cells #[.int .i64 t', .int .i64 s', .slice B2 a'.length d2, .slice B3 b'.length d3] 27)).alloc (.cells #[.int .i64 0, .int .i64 0, .slice none 0 0, .slice none 0 0] 27)) (hA.below hb1) (hB.below hb1) hS hS' (glob_below hG hb1) (fun p q => ⟨_, _, _, rfl, Tryd.func103, rfl, rfl, fun W _ => both_op p q W⟩))
 obtain ⟨RR, hRR⟩ : ∃ RR, joinR (fun x y => x && y) t s a b t' s' a' b' = RR := ⟨_, rfl⟩
 rw [hRR] at hj ⊢
 clear hRR
 go_enter Tryd.func75, Tryd.ntmps75
 go_wp2_with (go_at_call 102; go_loud (
     with_reducible refine hj.out.mono ?_
     rintro e w3 ⟨F2, k2, F3, k3, rfl, hRy, hb3⟩
     have hBy := below_step hb1 hb3
     have b0 : ZBox w3 (w.heap.size + 2) := blk_below hZ hb3
     obtain ⟨e0, e1, e2, e3⟩ := box b0
     obtain ⟨f0, f1, f2, f3⟩ := box_open b0))
 refine bodyPost_ret (results_ct rfl _ _ (w.heap.size + 2) 27 #[.int .i64 RR.t, .int .i64 RR.s, .slice F2 RR.a.length k2, .slice F3 RR.b.length k3] (0, 0) _ rfl (put_box b0) Tryd.underlying27 rfl (by kernel_rfl)) rfl ?_
 exact gives_put hRy b0 hBy (by omega) (by simp <;> omega)
end Go.Proofs.YtnjdkhnepmmfgaaDoor.Jo
namespace Go.Proofs.YtnjdkhnepmmfgaaDoor.Bldm
set_option linter.unusedVariables false
set_option linter.unusedSimpArgs false
open Go.RowKit Go.Proofs.YtnjdkhnepmmfgaaDoorW.PrintWords Go.Proofs.YtnjdkhnepmmfgaaDoorW.PrintLast Go.Proofs.YtnjdkhnepmmfgaaDoorW.PrintMore Kp Mg Mk Rg
/-- w0: the world ahead of the building; x: the block of the row that is made. -/
structure B (w0 : World) (u s : Int) (gX : Nat) (x : Option Nat) (vA : Value) (bs : List Bool) (vN : Value) (rws : List (List Nat)) (W : World) : Prop where
 bX : W.heap[gX]? = some (.cells #[.int .i64 u, .int .i64 s, vA, vN] 66 (0, 0))
 acc : Kd.R Kd.bool 4 W w0.heap.size (fun _ => True) vA bs
 nxt : Kd.R (Kd.slice 3 (Kd.int .i64)) 87 W w0.heap.size (fun k => True ∧ some k ≠ x) vN (rws.map ints)
 bel : Below w0.heap.size w0 W
 le : w0.heap.size ≤ gX
/-- .. while a row is made. -/
structure Br (w0 : World) (u s : Int) (gX : Nat) (vr : Value) (r : List Nat) (vA : Value) (bs : List Bool) (vN : Value) (rws : List (List Nat)) (W : World) : Prop where
 g : B w0 u s gX vr.ownBlock vA bs vN rws W
 row : Kd.R (Kd.int .i64) 3 W w0.heap.size (fun k => True ∧ some k ≠ vN.ownBlock) vr (ints r)
section
variable {w0 : World} {u s : Int} {gX : Nat} {x : Option Nat} {vA vN vr : Value} {bs : List Bool} {rws : List (List Nat)} {r : List Nat} {W W' : World}
theorem B.step (h : B w0 u s gX x vA bs vN rws W) (hb : Below W.heap.size W W') : B w0 u s gX x vA bs vN rws W' := ⟨blk_below h.bX hb, Kd.R_below h.acc hb, Kd.R_below h.nxt hb, below_step h.bel hb, h.le⟩
theorem Br.step (h : Br w0 u s gX vr r vA bs vN rws W) (hb : Below W.heap.size W W') : Br w0 u s gX vr r vA bs vN rws W' := ⟨h.g.step hb, Kd.R_below h.row hb⟩
theorem B.nil (h : B w0 u s gX none vA bs vN rws W) : Br w0 u s gX (.slice none 0 0) [] vA bs vN rws W := ⟨h, Kd.R_nil _ _ _ _ _⟩
/-- A number is put behind the row. -/
theorem Br.more (h : Br w0 u s gX vr r vA bs vN rws W) {v1 : Value} {r' : List Nat} (hg : W.grownBy W' vr.ownBlock) (hat : v1.ownBlock = vr.ownBlock ∨ ∃ b, v1.ownBlock = some b ∧ W.heap.size ≤ b) (hR : Kd.R (Kd.int .i64) 3 W' w0.heap.size (fun k => True ∧ some k ≠ vN.ownBlock) v1 (ints r')) (hb : Below w0.heap.size w0 W') : Br w0 u s gX v1 r' vA bs vN rws W' := by
 have hk := Keep.grown hg
 have o : ∀ E : List Nat, (∀ q ∈ E, q ≠ 3) → Off W vr.ownBlock E := fun E hE => Off.row h.row hE
 exact ⟨⟨hk.obj h.g.bX (off_ne h.g.bX (o _ (by decide))), R_off h.g.acc hk (o _ (by decide)), Kd.R_after h.g.nxt hg hat, hb, h.g.le⟩, hR⟩
/-- A mark is put behind the others. -/
theorem Br.acc (h : Br w0 u s gX vr r vA bs vN rws W) {v1 : Value} {bs' : List Bool} (hg : W.grownBy W' vA.ownBlock) (hR : Kd.R Kd.bool 4 W' w0.heap.size (fun _ => True) v1 bs') (hb : Below w0.heap.size w0 W') :
  W'.heap[gX]? = some (.cells #[.int .i64 u, .int .i64 s, vA, vN] 66 (0, 0)) ∧ Br w0 u s gX vr r v1 bs' vN rws (W'.setCell ⟨gX, 2, none⟩ v1) := by
 have hk := Keep.grown hg
 have o : ∀ E : List Nat, (∀ q ∈ E, q ≠ 4) → Off W vA.ownBlock E := fun E hE => Off.row h.g.acc hE
 have bX := hk.obj h.g.bX (off_ne h.g.bX (o _ (by decide)))
 refine ⟨bX, ?_⟩
 have hs := Keep.set W' ⟨gX, 2, none⟩ v1
 have p : ∀ E : List Nat, (∀ q ∈ E, q ≠ 66) → Off W' (some gX) E := fun E hE => Off.cells bX hE
 exact ⟨⟨blk_put bX 2 v1 rfl, R_off hR hs (p _ (by decide)), R_off (R_off h.g.nxt hk (o _ (by decide))) hs (p _ (by decide)), hb.setCell h.g.le _, h.g.le⟩, R_off (R_off h.row hk (o _ (by decide))) hs (p _ (by decide))⟩
/-- The row is put behind the others. -/
theorem Br.nxt (h : Br w0 u s gX vr r vA bs vN rws W) {v1 : Value} {rws' : List (List Nat)} (hg : W.grownBy W' vN.ownBlock) (hR : Kd.R (Kd.slice 3 (Kd.int .i64)) 87 W' w0.heap.size (fun _ => True) v1 (rws'.map ints)) (hb : Below w0.heap.size w0 W') :
  W'.heap[gX]? = some (.cells #[.int .i64 u, .int .i64 s, vA, vN] 66 (0, 0)) ∧ B w0 u s gX none vA bs v1 rws' (W'.setCell ⟨gX, 3, none⟩ v1) := by
 have hk := Keep.grown hg
 have o : ∀ E : List Nat, (∀ q ∈ E, q ≠ 87) → Off W vN.ownBlock E := fun E hE => Off.row h.g.nxt hE
 have bX := hk.obj h.g.bX (off_ne h.g.bX (o _ (by decide)))
 refine ⟨bX, ?_⟩
 have hs := Keep.set W' ⟨gX, 3, none⟩ v1
 have p : ∀ E : List Nat, (∀ q ∈ E, q ≠ 66) → Off W' (some gX) E := fun E hE => Off.cells bX hE
 exact ⟨blk_put bX 3 v1 rfl, R_off (R_off h.g.acc hk (o _ (by decide))) hs (p _ (by decide)), Kd.R_mono (R_off hR hs (p _ (by decide))) (fun _ hk => ⟨trivial, by simp⟩), hb.setCell h.g.le _, h.g.le⟩
end
end Go.Proofs.YtnjdkhnepmmfgaaDoor.Bldm
namespace Go.Proofs.YtnjdkhnepmmfgaaDoor.Mpd
set_option linter.unusedVariables false
set_option linter.unusedSimpArgs false
open Go Go.RowKit Go.Proofs.YtnjdkhnepmmfgaaDoorW.PrintWords Go.Proofs.YtnjdkhnepmmfgaaDoorW.PrintLast Go.Proofs.YtnjdkhnepmmfgaaDoorW.PrintMore Kp Fv Rt Mg Mk Tdy Tf Tid Ti Tr Go.Proofs.YtnjdkhnepmmfgaaDoor.Op Lr Gv PB1 PC1 Bldm Jo
/-- The machine's parameter, the result's box, and the list of columns. -/
structure Cm (w0 : World) (u s : Nat) (A2 : Option Addr) (n c2 : Nat) (A3 : Option Addr) (c3 : Nat) (gr wd cr : Nat) (cs : List Nat) (W : World) : Prop where
 bM : W.heap[w0.heap.size]? = some (.cells #[.int .i64 (u : Int), .int .i64 (s : Int), .slice A2 n c2, .slice A3 n c3] 66 (0, 0))
 bR : W.heap[w0.heap.size + 1]? = some (.cells #[.int .i64 0, .int .i64 0, .slice none 0 0, .slice none 0 0] 66 (0, 0))
 grp : Kd.R (Kd.int .i64) 3 W w0.heap.size (fun _ => True) (.slice (some ⟨gr, 0, none⟩) wd cr) (ints cs)
 bel : Below w0.heap.size w0 W
section
variable {w0 W W' : World} {u s : Nat} {A2 : Option Addr} {n c2 : Nat} {A3 : Option Addr} {c3 : Nat} {gr wd cr : Nat} {cs : List Nat}
theorem Cm.step (h : Cm w0 u s A2 n c2 A3 c3 gr wd cr cs W) (hb : Below W.heap.size W W') : Cm w0 u s A2 n c2 A3 c3 gr wd cr cs W' := ⟨blk_below h.bM hb, blk_below h.bR hb, Kd.R_below h.grp hb, below_step h.bel hb⟩
theorem Cm.put (h : Cm w0 u s A2 n c2 A3 c3 gr wd cr cs W) (hb : w0.heap.size ≤ gr) (i x : Nat) : Cm w0 u s A2 n c2 A3 c3 gr wd cr (cs.set i x) (W.setCell ⟨gr, i, none⟩ (.int .i64 (x : Int))) := by
 have hs := Keep.set W ⟨gr, i, none⟩ (.int .i64 (x : Int))
 have o : ∀ E : List Nat, (∀ q ∈ E, q ≠ 3) → Off W (some gr) E := fun E hE => Off.row h.grp hE
 refine ⟨hs.obj h.bM (off_ne h.bM (o _ (by decide))), hs.obj h.bR (off_ne h.bR (o _ (by decide))), ?_, h.bel.setCell hb _⟩
 rw [← ints_set]
 exact Kd.R_putn h.grp (i : Int) (x : Int)
end
def cols (L : Nat → Nat) (wd c : Nat) : List Nat := (List.range c).map L ++ List.replicate (wd - c) 0
theorem cols_len {L : Nat → Nat} {wd c : Nat} (h : c ≤ wd) : (cols L wd c).length = wd := by simp [cols]; omega
theorem cols_set {L : Nat → Nat} {wd c : Nat} (h : c < wd) : (cols L wd c).set c (L c) = cols L wd (c + 1) := by
 unfold cols
 rw [List.set_append, if_neg (by simp), List.length_map, List.length_range, Nat.sub_self, Dfs.range_map_succ, show wd - c = (wd - (c + 1)) + 1 by omega, List.replicate_succ, List.set_cons_zero, List.append_assoc]
 rfl
theorem cols_full {L : Nat → Nat} {wd : Nat} : cols L wd wd = (List.range wd).map L := by simp [cols]
/-- The row of a state, its columns read anew. -/
def rowG (L : Nat → Nat) (wo wd : Nat) (rows : List (List Nat)) (q : Nat) : List Nat := (List.range wd).map fun c => if L c < wo then (rows.getD q []).getD (L c) 0 else q
def rowsG (L : Nat → Nat) (wo wd : Nat) (rows : List (List Nat)) : List (List Nat) := (List.range rows.length).map (rowG L wo wd rows)
section
variable {w W : World} {g : Nat} {t s : Int} {A2 A3 : Option Addr} {n2 c2 n3 c3 : Nat}
abbrev MBox (W : World) (g : Nat) (t s : Int) (A2 : Option Addr) (n2 c2 : Nat) (A3 : Option Addr) (n3 c3 : Nat) : Prop := W.heap[g]? = some (.cells #[.int .i64 t, .int .i64 s, .slice A2 n2 c2, .slice A3 n3 c3] 66 (0, 0))
theorem mbox (h : MBox W g t s A2 n2 c2 A3 n3 c3) : W.cell? ⟨g, 0, none⟩ = some (.int .i64 t) ∧ W.cell? ⟨g, 1, none⟩ = some (.int .i64 s) ∧ W.cell? ⟨g, 2, none⟩ = some (.slice A2 n2 c2) ∧ W.cell? ⟨g, 3, none⟩ = some (.slice A3 n3 c3) :=
 ⟨(blk_cell h 0).trans rfl, (blk_cell h 1).trans rfl, (blk_cell h 2).trans rfl, (blk_cell h 3).trans rfl⟩
theorem mbox_open (h : MBox W g t s A2 n2 c2 A3 n3 c3) : W.frozen? ⟨g, 0, none⟩ = false ∧ W.frozen? ⟨g, 1, none⟩ = false ∧ W.frozen? ⟨g, 2, none⟩ = false ∧ W.frozen? ⟨g, 3, none⟩ = false := ⟨blk_frozen h 0, blk_frozen h 1, blk_frozen h 2, blk_frozen h 3⟩
theorem mput_box {t' s' : Int} {A2' A3' : Option Addr} {n2' c2' n3' c3' : Nat} (h : MBox W g t' s' A2' n2' c2' A3' n3' c3') : MBox (put4 W g t s A2 n2 c2 A3 n3 c3) g t s A2 n2 c2 A3 n3 c3 := blk_put (blk_put (blk_put (blk_put h 0 _ rfl) 1 _ rfl) 2 _ rfl) 3 _ rfl
theorem mput_mc {base n : Nat} {X : List Bool × List (List Nat)} {B2 B3 : Option Addr} {d2 d3 : Nat} {t' s' : Int} {A2' A3' : Option Addr} {n2' c2' n3' c3' : Nat} (hM : Mc base W n X B2 d2 B3 d3) (h : MBox W g t' s' A2' n2' c2' A3' n3' c3') : Mc base (put4 W g t s A2 n2 c2 A3 n3 c3) n X B2 d2 B3 d3 :=
 mc_set (mc_set (mc_set (mc_set hM h 0 _) (blk_put h 0 _ rfl) 1 _) (blk_put (blk_put h 0 _ rfl) 1 _ rfl) 2 _) (blk_put (blk_put (blk_put h 0 _ rfl) 1 _ rfl) 2 _ rfl) 3 _
end
set_option maxHeartbeats 8000000 in
set_option maxRecDepth 100000 in
theorem mapped (fo : FuncId) (fn : Func) (cap : Array Value) (hfn : Tryd.prog.funcs[fo]? = some fn) (hnm : (fn.name == "runtime.NumGoroutine") = false) (hbd : fn.body.isSome = true)
  (u t' s n : Nat) (hu : u < 4) (ht' : t' < 4) (ht0 : 0 < t') (L : Nat → Nat) (rd : Nat → List Nat) (hL : ∀ c, c < wdOf t' → impl_columnOf.f 5 (ints (rd c)) = some ((L c : Nat) : Int))
  (a : List Bool) (rows : List (List Nat)) (hcl : Closed (wdOf u) rows a) (hn : rows.length = n) (hn2 : n ≤ 10000) (hn0 : 0 < n) (A2 : Option Addr) (c2 : Nat) (A3 : Option Addr) (c3 : Nat) (w : World)
  (hA : Kd.C Kd.bool w A2 n a) (hN : Kd.C (Kd.slice 3 (Kd.int .i64)) w A3 n (rows.map ints))
  (hrd : ∀ c, c < wdOf t' → ∀ V0 V1, Below w.heap.size w V0 → ∀ (A : Option Addr) (m cc : Nat), m = (digs t' c).length → Kd.R (Kd.int .i64) 3 V1 V0.heap.size (fun _ => True) (.slice A m cc) (ints (digs t' c)) → Below V0.heap.size V0 V1 →
   Calls Tryd.prog fo (#[.slice A m cc] ++ cap) V1 fun e w' => ∃ A' n' c', e = .returned (.slice A' n' c') ∧ n' = (rd c).length ∧ n' ≤ c' ∧ Kd.C (Kd.int .i64) w' A' n' (ints (rd c)) ∧ Below V0.heap.size V0 w') :
  Calls Tryd.prog 72 #[.agg #[.int .i64 (u : Int), .int .i64 (s : Int), .slice A2 n c2, .slice A3 n c3], .int .i64 (t' : Int), .func (.func fo) #[] cap] w fun e w' => ∃ D2 x2 D3 x3, e = .returned (.agg #[.int .i64 (t' : Int), .int .i64 (s : Int), .slice D2 n x2, .slice D3 n x3]) ∧ Mc w.heap.size w' n (a, rowsG L (wdOf u) (wdOf t') rows) D2 x2 D3 x3 ∧ Below w.heap.size w w' := by
 have hwd : wdOf t' ≤ 30 := by have := wd_le t' ht'; omega
 have hwdf : Aside0 (∀ W, Calls Tryd.prog 94 #[.int .i64 (t' : Int)] W fun e W' => e = .returned (.int .i64 (wdOf t' : Int)) ∧ Below W.heap.size W W') := ⟨fun W => (impl_widthOf.calls 10 _ _ W (fin_wide _ ht').1).mono (fun e W' hh => ⟨hh.1, hh.2.below⟩)⟩
 have hwo : Aside0 (∀ W, Calls Tryd.prog 94 #[.int .i64 (u : Int)] W fun e W' => e = .returned (.int .i64 (wdOf u : Int)) ∧ Below W.heap.size W W') := ⟨fun W => (impl_widthOf.calls 10 _ _ W (fin_wide _ hu).1).mono (fun e W' hh => ⟨hh.1, hh.2.below⟩)⟩
 have hdg : Aside0 (∀ c, c < wdOf t' → ∀ W, Calls Tryd.prog 62 #[.int .i64 (t' : Int), .int .i64 (c : Int)] W fun e W' => ∃ A m cc, e = .returned (.slice A m cc) ∧ m = (digs t' c).length ∧ Kd.R (Kd.int .i64) 3 W' W.heap.size (fun _ => True) (.slice A m cc) (ints (digs t' c)) ∧ Below W.heap.size W W') := ⟨fun c hc W => (impl_digitsOf.calls 10 _ _ _ W (fin_digs t' ht' c (by have := wd_le t' ht'; omega))).mono (fun e W' hh => by
  obtain ⟨v, rfl, hR, hb⟩ := hh
  obtain ⟨A, cc, rfl⟩ := Kd.R_slice hR
  exact ⟨A, _, cc, rfl, by rw [ints_length], hR, hb⟩)⟩
 have hcf : Aside0 (∀ c, c < wdOf t' → ∀ (A : Option Addr) (m cc : Nat) (W : World), m = (rd c).length → m ≤ cc → Kd.C (Kd.int .i64) W A m (ints (rd c)) → Calls Tryd.prog 86 #[.slice A m cc] W fun e W' => e = .returned (.int .i64 ((L c : Nat) : Int)) ∧ Below W.heap.size W W') := ⟨fun c hc A m cc W hm hmc hC => by
  subst hm
  have q := impl_columnOf.calls 5 A cc (ints (rd c)) _ W (by rw [ints_length]; exact hC) (by rw [ints_length]; exact hmc) (hL c hc)
  rw [ints_length] at q
  exact q.mono (fun e W' hh => ⟨hh.1, hh.2.below⟩)⟩
 have hal : a.length = n := by rw [← hcl.len]; exact hn
 have hcl0 : Aside0 (∀ W, Below w.heap.size w W → Calls Tryd.prog 101 #[.slice A2 n c2] W fun e W' => ∃ D2 x2, e = .returned (.slice D2 n x2) ∧ Kd.R Kd.bool 4 W' W.heap.size (fun _ => True) (.slice D2 n x2) a ∧ Below W.heap.size W W') := ⟨fun W hb => by
  have q := Mo.clone W A2 c2 a (by omega) (by omega) (by rw [hal]; exact Kd.C_below hA hb)
  rw [hal] at q
  exact q.mono (fun e W' hh => by
   obtain ⟨v, rfl, hR, hb⟩ := hh
   obtain ⟨D, x, rfl⟩ := Kd.R_slice hR
   rw [hal] at hR ⊢
   exact ⟨D, x, rfl, hR, hb⟩)⟩
 have hrdq := Aside0.mk hrd
 have hwdp : Aside0 (0 < wdOf t') := ⟨wd_pos t' ht' ht0⟩
 have hNq := Aside0.mk hN
 have hnq := Aside0.mk hn2
 have hrnq := Aside0.mk hn
 have hclq := Aside0.mk hcl
 have hwdq := Aside0.mk hwd
 obtain ⟨wd, hwdE⟩ : ∃ x, wdOf t' = x := ⟨_, rfl⟩
 obtain ⟨wo, hwoE⟩ : ∃ x, wdOf u = x := ⟨_, rfl⟩
 rw [hwdE] at hwdp hwdf hdg hcf hrdq hwdq ⊢
 rw [hwoE] at hwo hclq ⊢
 have hb0 : Below w.heap.size w ((w.alloc (.cells #[.int .i64 (u : Int), .int .i64 (s : Int), .slice A2 n c2, .slice A3 n c3] 66)).alloc (.cells #[.int .i64 0, .int .i64 0, .slice none 0 0, .slice none 0 0] 66)) := below_alloc (below_alloc (Below.refl _ _) _) _
 have bM0 : ((w.alloc (.cells #[.int .i64 (u : Int), .int .i64 (s : Int), .slice A2 n c2, .slice A3 n c3] 66)).alloc (.cells #[.int .i64 0, .int .i64 0, .slice none 0 0, .slice none 0 0] 66)).heap[w.heap.size]? = some (.cells #[.int .i64 (u : Int), .int .i64 (s : Int), .slice A2 n c2, .slice A3 n c3] 66 (0, 0)) := blk_alloc (blk_new _ _) _
 have bR0 : ((w.alloc (.cells #[.int .i64 (u : Int), .int .i64 (s : Int), .slice A2 n c2, .slice A3 n c3] 66)).alloc (.cells #[.int .i64 0, .int .i64 0, .slice none 0 0, .slice none 0 0] 66)).heap[w.heap.size + 1]? = some (.cells #[.int .i64 0, .int .i64 0, .slice none 0 0, .slice none 0 0] 66 (0, 0)) := blk_at _ _ _ (by simp)
 clear hL hA hN hrd hcl hn hn2 hn0 hu ht' hwdE hwoE hal hwd
 go_enter Tryd.func72, Tryd.ntmps72
 go_wp2_with (first
  | (go_at_call 94; go_loud (
    with_reducible refine (hwdf.out _).mono ?_
    rintro e w1 ⟨rfl, hb1⟩
    have bM1 := blk_below bM0 hb1
    have bR1 := blk_below bR0 hb1
    have hB1 := below_step hb0 hb1))
  | ((with_reducible refine gate_dst (N := 17) rfl ?_); go_loud (
    refine Kd.R_make (Kd.int .i64) (w0 := w) w.heap.size 3 rfl (N := 17) rfl 87 _ _ rfl (wd : Int) rfl rfl Tryd.underlying87 (.int .i64 0) 8 GwI.info_int rfl (by decide) (by decide) (0 : Int) (ok := fun _ => True) (okp := fun _ => False) rfl (fun _ h => h.elim) trivial (by omega) (by have := hwdq.out; simp; omega) hB1 (Below.size hB1) ?_
    intro v2 w2 hR2 hb2 hg2 hn2
    simp only [Int.toNat_natCast] at hR2
    obtain ⟨gr, cr, hv2, hgr, hgl, _⟩ := Kd.R_form hR2 (by have := hwdp.out; simp; omega)
    subst hv2
    rw [List.length_replicate] at hR2
    have hC0 : Cm w u s A2 n c2 A3 c3 gr wd cr (cols L wd 0) w2 := ⟨(Keep.grown hg2).obj bM1 (by simp), (Keep.grown hg2).obj bR1 (by simp), (by rw [show cols L wd 0 = List.replicate wd 0 by simp [cols], ints_replicate]; exact hR2), hb2⟩
    clear bM1 bR1 hR2 hn2 hg2 hb2 hB1)))
 have hgrq := Aside0.mk hgr
 clear hgr hgl
 go_loopg [20] wd (fun kq v20 W => ∃ c : Nat, v20 = .int .i64 (c : Int) ∧ Aside0 (kq = wd - c) ∧ c ≤ wd ∧ Aside0 (Cm w u s A2 n c2 A3 c3 gr wd cr (cols L wd c) W))
 case atStart => exact ⟨0, rfl, ⟨by simp⟩, Nat.zero_le _, ⟨hC0⟩⟩
 case round =>
  clear hC0 bM0 bR0 hb0
  obtain ⟨c, rfl, hk, hc, h⟩ := hrel
  replace h := h.out
  by_cases hlt : c < wd
  ·have hlt1 : ((c : Int) < (wd : Int)) = True := eq_true (by omega)
   have h0c : (0 ≤ (c : Int)) = True := eq_true (by omega)
   have hltq := Aside0.mk hlt
   have hwrs := Aside0.mk (Below.size h.bel)
   clear hlt
   obtain ⟨LC, hLC⟩ : ∃ x, L c = x := ⟨_, rfl⟩
   have hLCq := Aside0.mk hLC
   clear hLC
   obtain ⟨wr0, hwr0⟩ : ∃ x : World, x = wr := ⟨_, rfl⟩
   go_wp2_with (first
    | (go_at_call 62; go_loud (
      with_reducible refine (hdg.out c hltq.out _).mono ?_
      rintro e w4 ⟨A4, m4, c4, rfl, hm4', hR4, hb4⟩
      have hm4 := Aside0.mk hm4'
      clear hm4'))
    | ((with_reducible refine gate_dst (N := 29) rfl ?_); go_loud (
      refine goesV_ (some 29) rfl rfl hfn hnm hbd #[.slice A4 m4 c4] rfl rfl (by simp only [List.map_toArray, List.map_cons, List.map_nil]; rfl) ?_
      with_reducible refine (hrdq.out c hltq.out _ w4 h.bel A4 m4 c4 hm4.out hR4 hb4).mono ?_
      rintro e w5 ⟨A5, m5, c5, rfl, hm5', hmc5, hC5, hb5⟩
      have hm5 := Aside0.mk hm5'
      clear hm5'
      refine ⟨_, rfl, ?_⟩
      have hk5 := h.step hb5))
    | (go_at_call 86; go_loud (
      with_reducible refine (hcf.out c hltq.out A5 m5 c5 w5 hm5.out hmc5 hC5).mono ?_
      rw [hLCq.out]
      rintro e w6 ⟨rfl, hb6⟩
      have hk6 := hk5.step hb6
      obtain ⟨_, cells, hcells⟩ := row_blk hk6.grp (by rw [ints_length, cols_len hc]; have := hltq.out; omega)
      have fz : w6.frozen? ⟨gr, c, none⟩ = false := blk_frozen hcells _
      have cz := num_at hk6.grp (i := c) (by rw [cols_len hc]; exact hltq.out)
      clear hcells)))
   go_roundg (wd - (c + 1))
   case measure => have := hk.out; have := hltq.out; omega
   case rel =>
    have h7 := hk6.put hgrq.out c LC
    rw [← hLCq.out, cols_set hltq.out, hLCq.out] at h7
    exact ⟨c + 1, Dfs.v_succ (by have := hwdq.out; have := hltq.out; omega), ⟨rfl⟩, (by have := hltq.out; omega), ⟨h7⟩⟩
  ·have hlt1 : ((c : Int) < (wd : Int)) = False := eq_false (by omega)
   have hcc : wd = c := by omega
   subst hcc
   rw [cols_full] at h
   have hP0 := h.bM
   have hB1 := h.bel
   have hR1 := h.bR
   have hgrp := Aside0.mk h.grp
   have hcl : Aside0 (∀ W, Below wr.heap.size wr W → Calls Tryd.prog 101 #[.slice A2 n c2] W fun e W' => ∃ D2 x2, e = .returned (.slice D2 n x2) ∧ Kd.R Kd.bool 4 W' W.heap.size (fun _ => True) (.slice D2 n x2) a ∧ Below W.heap.size W W') := ⟨fun W hb => hcl0.out W (below_step hB1 hb)⟩
   have hNq1 := Aside0.mk (Kd.C_below hNq.out hB1)
   clear h hk hc hcl0 hdg hcf hrdq hfn hnm hbd
   go_wp2_with fail
   obtain ⟨w0, hw0⟩ : ∃ x, x = wr := ⟨_, rfl⟩
   subst hw0
   have hSS : ∀ W', Below w0.heap.size w0 W' → (fun w' => w'.cell? ⟨w.heap.size, 1, none⟩ = some (.int .i64 (s : Int)) ∧ w'.cell? ⟨w.heap.size, 2, none⟩ = some (.slice A2 n c2)) W' := fun W' hb => ⟨(blk_cell (blk_below hP0 hb) 1).trans rfl, (blk_cell (blk_below hP0 hb) 2).trans rfl⟩
   have hB0 : Below w0.heap.size w0 w0.drew := below_drew1 (Below.refl _ _)
   refine st 9 (fun w' => w'.cell? ⟨w.heap.size, 1, none⟩ = some (.int .i64 (s : Int)) ∧ w'.cell? ⟨w.heap.size, 2, none⟩ = some (.slice A2 n c2)) [8] (hSS _ hB0) (fun hHeld => ?_)
   refine pu 0 33 ?_
   refine pu 1 34 ?_
   refine pu 3 36 ?_
   refine tk 2 35 hHeld ?_
   refine tk 4 37 hHeld ?_
   refine join_ (σ := Option Addr × Nat × Nat) 1 #[true, true, true, true, true, true, true, true, false] (fun z => [(38, .slice z.1 n z.2.1), (39, .agg #[.int .i64 (t' : Int), .int .i64 (s : Int), .slice z.1 n z.2.1, .slice none 0 0]), (9, .pointer (some ⟨z.2.2, 0, none⟩))])
    (fun z w' => Kd.R Kd.bool 4 w' w0.heap.size (fun _ => True) (.slice z.1 n z.2.1) a ∧ w'.heap[z.2.2]? = some (.cells #[.int .i64 0, .int .i64 0, .slice none 0 0, .slice none 0 0] 66 (0, 0)) ∧ Below w0.heap.size w0 w' ∧ w0.heap.size ≤ z.2.2) ?_ ?_
   rotate_left
   ·intro hCont
    refine two_ (i := 5) (j := 7) (Ni := some 38) (Nj := some 9) #[true, true, true, true, true, true, false, false, false] #[true, true, true, true, true, false, false, true, false] rfl rfl rfl rfl (by kernel_rfl) (by decide) (by decide) (fun K hK => ?_) (fun K hK => ?_)
    ·skip
     refine goes_ Tryd.func101 (by kernel_rfl) rfl #[.slice A2 n c2] (by rfl) rfl rfl (by (try simp only [List.map_toArray, List.map_cons, List.map_nil]); first | done | rfl) ?_
     with_reducible refine (hcl.out _ hB0).mono ?_
     rintro e V1 ⟨D2, x2, rfl, hR5, hb1⟩
     refine ⟨_, rfl, ?_⟩
     have hB1 := below_step hB0 hb1
     refine hK.out _ _ (hSS _ hB1) (fun hHeld => ?_)
     clear hK K
     refine norm_ (show Act.put _ _ _ = Act.put _ (some 38) _ from rfl) ?_
     refine nm ?_
     refine pu 6 39 ?_
     refine one_ (i := 7) (N := some 9) (zb 9 255) rfl rfl (by kernel_rfl) (by decide) (fun K hK => ?_)
     refine value_ (w1 := (V1.alloc (.cells #[.int .i64 0, .int .i64 0, .slice none 0 0, .slice none 0 0] 66))) (v := .pointer (some ⟨V1.heap.size, 0, none⟩)) (by rfl) rfl (by first | (go_simp; done) | (go_simp; rfl)) ?_
     have hb2 : Below V1.heap.size V1 (V1.alloc (.cells #[.int .i64 0, .int .i64 0, .slice none 0 0, .slice none 0 0] 66)) := below_alloc (Below.refl _ _) _
     have hB2 := below_step hB1 hb2
     have hX2 := blk_new V1 (.cells #[.int .i64 0, .int .i64 0, .slice none 0 0, .slice none 0 0] 66)
     refine hK.out _ _ (hSS _ hB2) (fun hHeld => ?_)
     clear hK K
     refine nm ?_
     exact norm_ (by simp only [putAll, Act.put, List.setIfInBounds_toArray, List.set_cons_zero, List.set_cons_succ]) (hCont (D2, x2, V1.heap.size) _ ⟨Kd.R_lower (Kd.R_below hR5 hb2) (Below.size hB0), hX2, hB2, Below.size hB1⟩)
    ·skip
     refine value_ (w1 := (w0.drew.alloc (.cells #[.int .i64 0, .int .i64 0, .slice none 0 0, .slice none 0 0] 66))) (v := .pointer (some ⟨w0.drew.heap.size, 0, none⟩)) (by rfl) rfl (by first | (go_simp; done) | (go_simp; rfl)) ?_
     have hb1 : Below w0.drew.heap.size w0.drew (w0.drew.alloc (.cells #[.int .i64 0, .int .i64 0, .slice none 0 0, .slice none 0 0] 66)) := below_alloc (Below.refl _ _) _
     have hB1 := below_step hB0 hb1
     have hX1 := blk_new w0.drew (.cells #[.int .i64 0, .int .i64 0, .slice none 0 0, .slice none 0 0] 66)
     refine hK.out _ _ (hSS _ hB1) (fun hHeld => ?_)
     clear hK K
     refine nm ?_
     refine one_ (i := 5) (N := some 38) (zb 9 191) rfl rfl (by kernel_rfl) (by decide) (fun K hK => ?_)
     refine goes_ Tryd.func101 (by kernel_rfl) rfl #[.slice A2 n c2] (by rfl) rfl rfl (by (try simp only [List.map_toArray, List.map_cons, List.map_nil]); first | done | rfl) ?_
     with_reducible refine (hcl.out _ hB1).mono ?_
     rintro e V2 ⟨D2, x2, rfl, hR5, hb2⟩
     refine ⟨_, rfl, ?_⟩
     have hB2 := below_step hB1 hb2
     have hX2 := blk_below hX1 hb2
     refine hK.out _ _ (hSS _ hB2) (fun hHeld => ?_)
     clear hK K
     refine norm_ (show Act.put _ _ _ = Act.put _ (some 38) _ from rfl) ?_
     refine nm ?_
     refine pu 6 39 ?_
     exact norm_ (by simp only [putAll, Act.put, List.setIfInBounds_toArray, List.set_cons_zero, List.set_cons_succ]) (hCont (D2, x2, w0.drew.heap.size) _ ⟨Kd.R_lower (hR5) (Below.size hB1), hX2, hB2, Below.size hB0⟩)
   rintro ⟨D2, x2, gX⟩ W ⟨hR5, bX, hBW, hle⟩
   dsimp only at hR5 bX hle ⊢
   refine norm_ (a' := ?_) ?_ ?_
   rotate_left
   ·simp only [putAll, Act.put, List.setIfInBounds_toArray, List.set_cons_zero, List.set_cons_succ, i64_w, i32_w]
    rfl
   have e0 : W.cell? ⟨gX, 0, none⟩ = some (.int .i64 0) := (blk_cell bX 0).trans rfl
   have f0 : W.frozen? ⟨gX, 0, none⟩ = false := blk_frozen bX 0
   have e1 : W.cell? ⟨gX, 1, none⟩ = some (.int .i64 0) := (blk_cell bX 1).trans rfl
   have f1 : W.frozen? ⟨gX, 1, none⟩ = false := blk_frozen bX 1
   have e2 : W.cell? ⟨gX, 2, none⟩ = some (.slice none 0 0) := (blk_cell bX 2).trans rfl
   have f2 : W.frozen? ⟨gX, 2, none⟩ = false := blk_frozen bX 2
   have e3 : W.cell? ⟨gX, 3, none⟩ = some (.slice none 0 0) := (blk_cell bX 3).trans rfl
   have f3 : W.frozen? ⟨gX, 3, none⟩ = false := blk_frozen bX 3
   refine la 8 (fun K hK => ?_)
   refine sk (((((W.setCell ⟨gX, 0, none⟩ (.int .i64 (t' : Int))).setCell ⟨gX, 1, none⟩ (.int .i64 (s : Int))).setCell ⟨gX, 2, none⟩ (.slice D2 n x2)).setCell ⟨gX, 3, none⟩ (.slice none 0 0))) ?_
   refine hK.out _ _ ?_
   clear hK K
   refine dn ?_
   have hB : B w0 (t' : Int) (s : Int) gX none (.slice D2 n x2) a (.slice none 0 0) [] ((((W.setCell ⟨gX, 0, none⟩ (.int .i64 (t' : Int))).setCell ⟨gX, 1, none⟩ (.int .i64 (s : Int))).setCell ⟨gX, 2, none⟩ (.slice D2 n x2)).setCell ⟨gX, 3, none⟩ (.slice none 0 0)) := ⟨blk_put (blk_put (blk_put (blk_put bX 0 _ rfl) 1 _ rfl) 2 _ rfl) 3 _ rfl, Kd.R_set (Kd.R_set (Kd.R_set (Kd.R_set hR5 bX (by decide) 0 _) (blk_put bX 0 _ rfl) (by decide) 1 _) (blk_put (blk_put bX 0 _ rfl) 1 _ rfl) (by decide) 2 _) (blk_put (blk_put (blk_put bX 0 _ rfl) 1 _ rfl) 2 _ rfl) (by decide) 3 _, Kd.R_nil _ _ _ _ _, (((hBW.setCell hle _).setCell hle _).setCell hle _).setCell hle _, hle⟩
   clear e0 e1 e2 e3 f0 f1 f2 f3 bX hBW hR5 hB0 hSS
   generalize ((((W.setCell ⟨gX, 0, none⟩ (.int .i64 (t' : Int))).setCell ⟨gX, 1, none⟩ (.int .i64 (s : Int))).setCell ⟨gX, 2, none⟩ (.slice D2 n x2)).setCell ⟨gX, 3, none⟩ (.slice none 0 0)) = w3 at hB ⊢
   obtain ⟨GA, hGA⟩ : ∃ GA, Aside0 (GA = rowG L wo wd rows) := ⟨_, ⟨rfl⟩⟩
   have q2 : w3.cell? ⟨w.heap.size, 2, none⟩ = some (.slice A2 n c2) := (blk_cell (blk_below hP0 hB.bel) 2).trans rfl
   go_wp2_with fail
   clear q2
   go_loopg [43] n (fun kq v43 W => ∃ (i : Nat) (vN : Value), v43 = .int .i64 (i : Int) ∧ Aside0 (kq = n - i) ∧ i ≤ n ∧ Aside0 (B w0 (t' : Int) (s : Int) gX none (.slice D2 n x2) a vN ((List.range i).map GA) W))
   case atStart => exact ⟨0, _, rfl, ⟨rfl⟩, Nat.zero_le _, ⟨hB⟩⟩
   case round =>
    clear hB
    obtain ⟨i, vN, rfl, hk, hi, hB⟩ := hrel
    replace hB := hB.out
    by_cases hlt : i < n
    ·have hi1 : ((i : Int) < (n : Int)) = True := eq_true (by omega)
     have h0i : (0 ≤ (i : Int)) = True := eq_true (by omega)
     have hiq := Aside0.mk hlt
     obtain ⟨x3, rfl, X5, c5, kx3, _, hCx⟩ := at_row hNq1.out i (by rw [List.length_map, hrnq.out]; exact hlt)
     have ex : (rows.map ints)[i]'(by rw [List.length_map, hrnq.out]; exact hlt) = ints (rows.getD i []) := by simp [List.getD_eq_getElem?_getD, show i < rows.length by rw [hrnq.out]; exact hlt]
     have lx : (ints (rows.getD i [])).length = wo := by rw [ints_length, List.getD_eq_getElem?_getD, List.getElem?_eq_getElem (by rw [hrnq.out]; exact hlt)]; exact hclq.out.wide _ (List.getElem_mem _)
     rw [ex, lx] at kx3 hCx
     have hCxq := Aside0.mk hCx
     have lxq := Aside0.mk lx
     have hb := hB.nil
     clear ex lx hCx
     go_wp2_with fail
     clear hB
     go_loopg [11, 48] (wd + 1) (fun ky v11 v48 W => ∃ (c : Nat) (r : List Nat) (Ar : Option Addr) (cr : Nat), v11 = .slice Ar c cr ∧ v48 = .int .i64 (c : Int) ∧ Aside0 (ky = wd + 1 - c) ∧ c ≤ wd ∧ Aside0 (r.length = c) ∧ Aside0 (r = (List.range c).map fun c => if L c < wo then (rows.getD i []).getD (L c) 0 else i) ∧ Aside0 (Br w0 (t' : Int) (s : Int) gX (.slice Ar c cr) r (.slice D2 n x2) a vN ((List.range i).map GA) W))
     case atStart => exact ⟨0, [], _, _, rfl, rfl, ⟨rfl⟩, Nat.zero_le _, ⟨rfl⟩, ⟨rfl⟩, ⟨hb⟩⟩
     case round =>
      clear hb
      obtain ⟨c, r, Ar, cr, rfl, rfl, hy, hc, hrl, hr, h⟩ := hrel
      replace h := h.out
      by_cases hlc : c < wd
      ·have hc1 : ((c : Int) < (wd : Int)) = True := eq_true (by omega)
       have h0c : (0 ≤ (c : Int)) = True := eq_true (by omega)
       obtain ⟨LC, hLe⟩ : ∃ LC, L c = LC := ⟨_, rfl⟩
       have kc := num_at (Kd.R_below hgrp.out h.g.bel) (i := c) (by simpa using hlc)
       rw [show ((List.range wd).map L)[c]'(by simpa using hlc) = LC by simp [hLe]] at kc
       have q0 : wr.cell? ⟨w.heap.size, 0, none⟩ = some (.int .i64 (u : Int)) := (blk_cell (blk_below hP0 h.g.bel) 0).trans rfl
       have hLeq := Aside0.mk hLe
       have hlcq := Aside0.mk hlc
       clear hLe
       by_cases hLw : LC < wo
       ·have z1 : ((LC : Int) < (wo : Int)) = True := eq_true (by omega)
        have h0L : (0 ≤ (LC : Int)) = True := eq_true (by omega)
        obtain ⟨x5, rfl, kx5⟩ := at_num hCxq.out LC (by rw [lxq.out]; omega)
        rw [Dfs.get_int (rows.getD i []) LC (by rw [lxq.out]; omega)] at kx5
        obtain ⟨X, hX⟩ : ∃ X, (rows.getD i []).getD LC 0 = X := ⟨_, rfl⟩
        rw [hX] at kx5
        have hXq := Aside0.mk hX
        have hLwq := Aside0.mk hLw
        clear hLw hlc hX
        go_wp2_with (first
        | (go_at_call 94; go_loud (
          with_reducible refine (hwo.out _).mono ?_
          rintro e wb ⟨rfl, hbb⟩
          have h4 := h.step hbb
          have q3 : wb.cell? ⟨w.heap.size, 3, none⟩ = some (.slice (some x3) n c3) := (blk_cell (blk_below hP0 h4.g.bel) 3).trans rfl
          have qx3 := at_cell h4.g.bel kx3
          have qx5 := at_cell h4.g.bel kx5))
        | ((with_reducible refine gate_builtin (b := .append) (xs := #[.tmp 66, .tmp 68]) rfl ?_); go_loud (
        at_builtin
        refine R_append' (Kd.int .i64) (w0 := w0) w0.heap.size rfl (.tmp 66) (.tmp 68) 87 3 (.int .i64 0) 8 rfl Tryd.underlying87 GwI.info_int rfl (by decide) (by decide) (.slice Ar c cr) (ints r) (X : Int) [.int .i64 (X : Int)] (fun k => True ∧ some k ≠ vN.ownBlock) (fun _ => False) _ (by simp) rfl rfl rfl (fun _ h => h.elim) (fun k hk => ⟨trivial, Kd.fresh_ok h4.g.nxt k hk⟩) h4.row h4.g.bel (Below.size h4.g.bel) (by rw [ints_length]; have := hrl.out; have := hwdq.out; omega) ?_
        intro v6 w6 hR6 hb6 hg6 hat6
        obtain ⟨A6', c6', hv6⟩ := Kd.R_slice hR6
        rw [List.length_append, List.length_singleton, ints_length, hrl.out] at hv6
        subst hv6
        have er : ints r ++ [(X : Int)] = ints (r ++ [X]) := (by simp [ints, GwI.ints])
        rw [er] at hR6
        have h8 := h4.more hg6 hat6 hR6 hb6)))
        go_roundg (wd + 1 - (c + 1))
        case measure => have := hy.out; have := hlcq.out; omega
        case rel => exact ⟨c + 1, r ++ [X], _, _, rfl, Dfs.v_succ (by have := hwdq.out; have := hlcq.out; omega), ⟨rfl⟩, (by have := hlcq.out; omega), ⟨by rw [List.length_append, List.length_singleton, hrl.out]⟩, ⟨by rw [Dfs.range_map_succ, ← hr.out, hLeq.out, if_pos hLwq.out, hXq.out]⟩, ⟨h8⟩⟩
       ·have z1 : ((LC : Int) < (wo : Int)) = False := eq_false (by omega)
        have hLwq := Aside0.mk hLw
        clear hLw hlc
        go_wp2_with (first
        | (go_at_call 94; go_loud (
          with_reducible refine (hwo.out _).mono ?_
          rintro e wb ⟨rfl, hbb⟩
          have h4 := h.step hbb))
        | ((with_reducible refine gate_builtin (b := .append) (xs := #[.tmp 66, .tmp 68]) rfl ?_); go_loud (
        at_builtin
        refine R_append' (Kd.int .i64) (w0 := w0) w0.heap.size rfl (.tmp 66) (.tmp 68) 87 3 (.int .i64 0) 8 rfl Tryd.underlying87 GwI.info_int rfl (by decide) (by decide) (.slice Ar c cr) (ints r) (i : Int) [.int .i64 (i : Int)] (fun k => True ∧ some k ≠ vN.ownBlock) (fun _ => False) _ (by simp) rfl rfl rfl (fun _ h => h.elim) (fun k hk => ⟨trivial, Kd.fresh_ok h4.g.nxt k hk⟩) h4.row h4.g.bel (Below.size h4.g.bel) (by rw [ints_length]; have := hrl.out; have := hwdq.out; omega) ?_
        intro v6 w6 hR6 hb6 hg6 hat6
        obtain ⟨A6', c6', hv6⟩ := Kd.R_slice hR6
        rw [List.length_append, List.length_singleton, ints_length, hrl.out] at hv6
        subst hv6
        have er : ints r ++ [(i : Int)] = ints (r ++ [i]) := (by simp [ints, GwI.ints])
        rw [er] at hR6
        have h8 := h4.more hg6 hat6 hR6 hb6)))
        go_roundg (wd + 1 - (c + 1))
        case measure => have := hy.out; have := hlcq.out; omega
        case rel => exact ⟨c + 1, r ++ [i], _, _, rfl, Dfs.v_succ (by have := hwdq.out; have := hlcq.out; omega), ⟨rfl⟩, (by have := hlcq.out; omega), ⟨by rw [List.length_append, List.length_singleton, hrl.out]⟩, ⟨by rw [Dfs.range_map_succ, ← hr.out, hLeq.out, if_neg hLwq.out]⟩, ⟨h8⟩⟩
      ·have hc1 : ((c : Int) < (wd : Int)) = False := eq_false (by omega)
       have hcc : wd = c := by omega
       subst hcc
       have hrG : Aside0 (ints r = ints (GA i)) := ⟨by rw [hGA.out]; unfold rowG; rw [← hr.out]⟩
       have k3 : wr.cell? ⟨gX, 3, none⟩ = some vN := (blk_cell h.g.bX 3).trans rfl
       go_wp2_with ((with_reducible refine gate_builtin (b := .append) (xs := #[.tmp 72, .tmp 74]) rfl ?_); go_loud (
          at_builtin
          refine R_append' (Kd.slice 3 (Kd.int .i64)) (w0 := w0) w0.heap.size rfl (.tmp 72) (.tmp 74) 64 87 (.slice none 0 0) 24 rfl Tryd.underlying64 GwI.info_ints rfl (by decide) (by decide) vN (((List.range i).map GA).map ints) (ints r) [.slice Ar wd cr] (fun _ => True) (fun k => True ∧ some k ≠ vN.ownBlock) _ (by simp) rfl rfl (by have q := h.row; have hl : (ints r).length = wd := (by rw [ints_length]; exact hrl.out); exact ⟨_, rfl, q⟩) (fun k hk => hk) (fun k hk => trivial) (Kd.R_mono h.g.nxt (fun k hk => trivial)) h.g.bel (Below.size h.g.bel) (by have := hnq.out; have := hiq.out; simp <;> omega) ?_
          intro v8 w8 hR8 hb8 hg8 hat8
          obtain ⟨A8, c8, hv8⟩ := Kd.R_slice hR8
          obtain ⟨n8, hn8⟩ : ∃ n, (((List.range i).map GA).map ints ++ [ints r]).length = n := ⟨_, rfl⟩
          rw [hn8] at hv8
          subst hv8
          clear hn8
          have er : ((List.range i).map GA).map ints ++ [ints r] = ((List.range (i + 1)).map GA).map ints := (by rw [hrG.out, Dfs.range_map_succ, List.map_append]; rfl)
          rw [er] at hR8
          obtain ⟨b9, h9⟩ := h.nxt hg8 hR8 hb8
          have c84 : w8.cell? ⟨gX, 3, none⟩ = some vN := (blk_cell b9 3).trans rfl
          have f84 : w8.frozen? ⟨gX, 3, none⟩ = false := blk_frozen b9 3))
       go_roundg (n - (i + 1))
       case measure => have := hk.out; have := hiq.out; omega
       case rel => exact ⟨i + 1, _, Dfs.v_succ (by have := hnq.out; have := hiq.out; omega), ⟨rfl⟩, (by have := hiq.out; omega), ⟨h9⟩⟩
    ·have hi1 : ((i : Int) < (n : Int)) = False := eq_false (by omega)
     have hii : i = n := by omega
     have eN : ((List.range i).map GA).map ints = (rowsG L wo wd rows).map ints := by unfold rowsG; rw [hii, hrnq.out, hGA.out]
     have hnx := hB.nxt
     rw [eN] at hnx
     obtain ⟨A7, c7, e7⟩ := Kd.R_slice hnx
     rw [show ((rowsG L wo wd rows).map ints).length = n by unfold rowsG; rw [List.length_map, List.length_map, List.length_range]; exact hrnq.out] at e7
     subst e7
     have bX := hB.bX
     have bZ := blk_below hR1 hB.bel
     have hMc : Mc w.heap.size wr n (a, rowsG L wo wd rows) D2 x2 A7 c7 := ⟨Kd.R_lower hB.acc (Below.size hB1), Kd.R_lower (Kd.R_mono hnx (fun _ _ => trivial)) (Below.size hB1)⟩
     have hBw := below_step hB1 hB.bel
     obtain ⟨e0, e1, e2, e3⟩ := mbox bX
     obtain ⟨d0, d1, d2, d3⟩ := mbox bZ
     obtain ⟨f0, f1, f2, f3⟩ := mbox_open bZ
     clear hnx hB eN
     go_wp2_with fail
     refine bodyPost_ret (results_cell_row rfl _ _ (w.heap.size + 1) 66 #[.int .i64 (t' : Int), .int .i64 (s : Int), .slice D2 n x2, .slice A7 n c7] (0, 0) _ rfl (mput_box bZ) Tryd.underlying66 rfl (by kernel_rfl)) rfl ⟨D2, x2, A7, c7, rfl, ?_, ?_⟩
     ·exact mput_mc hMc bZ
     ·exact put_below hBw (by omega)
end Go.Proofs.YtnjdkhnepmmfgaaDoor.Mpd
namespace Go.Proofs.YtnjdkhnepmmfgaaDoor.Adi
set_option linter.unusedVariables false
set_option linter.unusedSimpArgs false
open Go Go.RowKit Go.Proofs.YtnjdkhnepmmfgaaDoorW.PrintWords Go.Proofs.YtnjdkhnepmmfgaaDoorW.PrintLast Go.Proofs.YtnjdkhnepmmfgaaDoorW.PrintMore Kp Fv Mg Mk Rt Tdy Tf Tid Ti Tr Go.Proofs.YtnjdkhnepmmfgaaDoor.Op Ad Lr Gv Adt Jo
theorem rowsG_is {u tp : Nat} (hu : 0 < u ∧ u < 3) (ht : tp ≤ u) (rows : List (List Nat)) : Mpd.rowsG (leftC u tp) (wdOf u) (wdOf (u + 1)) rows = rowsA u tp rows := by
 unfold Mpd.rowsG rowsA
 refine List.map_congr_left (fun q _ => ?_)
 unfold Mpd.rowG addRow
 refine List.map_congr_left (fun c hc => ?_)
 have h := left_lt hu ht (List.mem_range.1 hc)
 by_cases h1 : leftC u tp c = wdOf u
 ·rw [if_pos h1, if_neg (by omega)]
 ·rw [if_neg h1, if_pos (by omega)]
set_option maxHeartbeats 4000000 in
set_option maxRecDepth 100000 in
theorem addI (u tp : Nat) (hu : 0 < u ∧ u < 3) (ht : tp ≤ u) (s : Int) (A2 : Option Addr) (c2 : Nat) (a : List Bool) (A3 : Option Addr) (c3 : Nat) (b : List (List Int)) (w : World) (hA : Arg w A2 c2 a A3 c3 b) (hS : Small a b) (hG : Glob w) (hok : okR (u : Int) s a b = true) :
  Calls Tryd.prog 30 #[.agg #[.int .i64 (u : Int), .int .i64 s, .slice A2 a.length c2, .slice A3 b.length c3], .int .i64 (tp : Int)] w (Gives (addR u tp s a b) w) := by
 have hb1 : Below w.heap.size w (((w.alloc (.cells #[.int .i64 (u : Int), .int .i64 s, .slice A2 a.length c2, .slice A3 b.length c3] 27)).alloc (.cells #[.int .i64 (tp : Int)] 2)).alloc (.cells #[.int .i64 0, .int .i64 0, .slice none 0 0, .slice none 0 0] 27)) := below_alloc (below_alloc (below_alloc (Below.refl _ _) _) _) _
 have hP : Box (((w.alloc (.cells #[.int .i64 (u : Int), .int .i64 s, .slice A2 a.length c2, .slice A3 b.length c3] 27)).alloc (.cells #[.int .i64 (tp : Int)] 2)).alloc (.cells #[.int .i64 0, .int .i64 0, .slice none 0 0, .slice none 0 0] 27)) w.heap.size (u : Int) s A2 a.length c2 A3 b.length c3 := blk_alloc (blk_alloc (blk_new _ _) _) _
 have hT : (((w.alloc (.cells #[.int .i64 (u : Int), .int .i64 s, .slice A2 a.length c2, .slice A3 b.length c3] 27)).alloc (.cells #[.int .i64 (tp : Int)] 2)).alloc (.cells #[.int .i64 0, .int .i64 0, .slice none 0 0, .slice none 0 0] 27)).heap[w.heap.size + 1]? = some (.cells #[.int .i64 (tp : Int)] 2 (0, 0)) := blk_alloc (blk_at _ _ _ (by simp)) _
 have bZ : ZBox (((w.alloc (.cells #[.int .i64 (u : Int), .int .i64 s, .slice A2 a.length c2, .slice A3 b.length c3] 27)).alloc (.cells #[.int .i64 (tp : Int)] 2)).alloc (.cells #[.int .i64 0, .int .i64 0, .slice none 0 0, .slice none 0 0] 27)) (w.heap.size + 2) := blk_at _ _ _ (by simp)
 have hv : Aside0 (∀ W, Below w.heap.size w W → Calls Tryd.prog 70 #[.agg #[.int .i64 (u : Int), .int .i64 s, .slice A2 a.length c2, .slice A3 b.length c3]] W fun e w' => e = .returned (.bool true) ∧ Below W.heap.size W w') := ⟨fun W hb => by
  have q := valid (u : Int) s A2 c2 a A3 c3 b W (hA.below hb).r3 hA.l3 hS.la hS.lb hS.lr
  rwa [hok] at q⟩
 have hin := Aside0.mk (in_impl (tp : Int) 0 (u : Int))
 rw [decide_eq_true (show (0 : Int) ≤ (tp : Int) ∧ (tp : Int) ≤ (u : Int) by omega)] at hin
 obtain ⟨n, hnE⟩ : ∃ n, (tidM (u : Int) s a b).2.length = n := ⟨_, rfl⟩
 have htd : Aside0 (∀ W, Below w.heap.size w W → Calls Tryd.prog 42 #[.agg #[.int .i64 (u : Int), .int .i64 s, .slice A2 a.length c2, .slice A3 b.length c3]] W fun e w' => ∃ B2 d2 B3 d3, e = .returned (.agg #[.int .i64 (u : Int), .int .i64 0, .slice B2 n d2, .slice B3 n d3]) ∧ Mc w.heap.size w' n (tidM (u : Int) s a b) B2 d2 B3 d3 ∧ Below W.heap.size W w') := ⟨fun W hb => tidyOf_c u n s A2 c2 a A3 c3 b hok hnE W (hA.below hb) (glob_below hG hb) w.heap.size (Below.size hb)⟩
 obtain ⟨_, _, hcM, h0M, hlM, _⟩ := tidM_good hok
 have heT : tidL (wdOf (u + 1)) (rowsA u tp (tidM (u : Int) s a b).2) (tidM (u : Int) s a b).1 0 (padT (u + 1)) = adL u tp s a b := by
  obtain ⟨_, _, h3, h4, _, _⟩ := ok_all hok
  unfold tidM adL
  rw [Int.toNat_natCast]
  exact add_same hu ht h4 h3
 obtain ⟨M, hM⟩ : ∃ M, tidM (u : Int) s a b = M := ⟨_, rfl⟩
 rw [hM] at hnE htd hcM h0M hlM heT
 clear hM
 have hal : M.1.length = n := by rw [← hcM.len]; exact hnE
 have hmp : Aside0 (∀ W, Below (((w.alloc (.cells #[.int .i64 (u : Int), .int .i64 s, .slice A2 a.length c2, .slice A3 b.length c3] 27)).alloc (.cells #[.int .i64 (tp : Int)] 2)).alloc (.cells #[.int .i64 0, .int .i64 0, .slice none 0 0, .slice none 0 0] 27)).heap.size (((w.alloc (.cells #[.int .i64 (u : Int), .int .i64 s, .slice A2 a.length c2, .slice A3 b.length c3] 27)).alloc (.cells #[.int .i64 (tp : Int)] 2)).alloc (.cells #[.int .i64 0, .int .i64 0, .slice none 0 0, .slice none 0 0] 27)) W → ∀ B2 d2 B3 d3, Mc w.heap.size W n M B2 d2 B3 d3 → Calls Tryd.prog 72 #[.agg #[.int .i64 (u : Int), .int .i64 0, .slice B2 n d2, .slice B3 n d3], .int .i64 ((u + 1 : Nat) : Int), .func (.func 73) #[] #[.pointer (some ⟨w.heap.size + 1, 0, none⟩)]] W fun e w' => ∃ D2 x2 D3 x3, e = .returned (.agg #[.int .i64 ((u + 1 : Nat) : Int), .int .i64 0, .slice D2 n x2, .slice D3 n x3]) ∧ Mc W.heap.size w' n (M.1, rowsA u tp M.2) D2 x2 D3 x3 ∧ Below W.heap.size W w') := by
  refine ⟨fun W hb B2 d2 B3 d3 hMc => ?_⟩
  have q := Mpd.mapped 73 _ #[.pointer (some ⟨w.heap.size + 1, 0, none⟩)] Tryd.func73 rfl rfl u (u + 1) 0 n (by omega) (by omega) (by omega) (leftC u tp) (fun c => (digs (u + 1) c).eraseIdx tp) (fun c hc => (Adc.col_is hu ht hc).1) M.1 M.2 hcM hnE (by omega) (by omega) B2 d2 B3 d3 W hMc.r2 hMc.r3 (fun c hc V0 V1 hb0 A m cc hm hR hb2 => by
   have hd := (Adc.col_is hu ht hc).2
   have q := Adc.add1 (w.heap.size + 1) V0.heap.size m cc tp A (digs (u + 1) c) V0 V1 hm.symm (by omega) (by omega) hR hb2 ((blk_cell (blk_below hT (below_step (below_step hb hb0) hb2)) 0).trans rfl)
   exact q.mono (fun e w' hh => by
    obtain ⟨A', rfl, h1, h2, h3⟩ := hh
    have hl : ((digs (u + 1) c).eraseIdx tp).length = m - 1 := by
     rw [List.length_eraseIdx, if_pos (by omega), ← hm]
    exact ⟨A', m - 1, cc, rfl, hl.symm, h1, h2, h3⟩))
  rw [rowsG_is hu ht] at q
  exact q
 have hti : Aside0 (∀ W, Below w.heap.size w W → ∀ (base : Nat) D2 x2 D3 x3, Mc base W n (M.1, rowsA u tp M.2) D2 x2 D3 x3 → Calls Tryd.prog 63 #[.agg #[.int .i64 ((u + 1 : Nat) : Int), .int .i64 0, .slice D2 n x2, .slice D3 n x3]] W (Gives (addR u tp s a b) W)) := by
  refine ⟨fun W hb base D2 x2 D3 x3 hMc => ?_⟩
  have hrl : (rowsA u tp M.2).length = n := by rw [rowsA_len]; exact hnE
  have q := tidied (u + 1) 0 M.1 (rowsA u tp M.2) (by omega) (by omega) (by omega) (rowsA_closed hu ht hcM) (by omega) W (glob_below hG hb) D2 x2 D3 x3 (by rw [hal]; exact hMc.r2) (by rw [hrl]; exact hMc.r3) (by rw [hal]; exact hMc.l2) (by rw [hrl]; exact hMc.l3)
  rw [heT, hal, hrl] at q
  exact q
 obtain ⟨RR, hRR⟩ : ∃ RR, addR u tp s a b = RR := ⟨_, rfl⟩
 rw [hRR] at hti ⊢
 have hu1 : wrap64 ((u : Int) + 1) = ((u + 1 : Nat) : Int) := by unfold wrap64; omega
 obtain ⟨u1, hu1E⟩ : ∃ x, u + 1 = x := ⟨_, rfl⟩
 rw [hu1E] at hmp hti hu1
 have z1 : ((u : Int) == 3) = false := beq_eq_false_iff_ne.mpr (by omega)
 have z2 : ((u : Int) = 3) = False := eq_false (by omega)
 obtain ⟨p0, p1, p2, p3⟩ := box hP
 have hu1q := Aside0.mk hu1
 clear hok hA hS hG hnE hcM h0M hlM heT hal hRR hu ht hu1 hu1E
 go_enter Tryd.func30, Tryd.ntmps30
 go_wp2_with (first
  | (go_at_call 70; (with_reducible refine (hv.out _ hb1).mono ?_); go_loud (
    rintro e w1 ⟨rfl, hb2⟩
    have hB2 := below_step hb1 hb2
    have m1 : w1.cell? ⟨w.heap.size, 0, none⟩ = some (.int .i64 (u : Int)) := (blk_cell (blk_below hP hb2) 0).trans rfl
    have t1 : w1.cell? ⟨w.heap.size + 1, 0, none⟩ = some (.int .i64 (tp : Int)) := (blk_cell (blk_below hT hb2) 0).trans rfl))
  | (go_at_call 71; (with_reducible refine (hin.out w1).mono ?_); go_loud (
    rintro e w2 ⟨rfl, hb3⟩
    have hb23 := below_step hb2 hb3
    have hB3 := below_step hB2 hb3
    have hP2 := blk_below hP hb23
    have hZ2 := blk_below bZ hb23
    have m2 : w2.cell? ⟨w.heap.size, 0, none⟩ = some (.int .i64 (u : Int)) := (blk_cell hP2 0).trans rfl)))
 clear m2 m1 t1 p0 p1 p2 p3
 have hSS : ∀ W', Below w2.heap.size w2 W' → (fun w' => w'.cell? ⟨w.heap.size, 0, none⟩ = some (.int .i64 (u : Int)) ∧ w'.cell? ⟨w.heap.size, 1, none⟩ = some (.int .i64 s) ∧ w'.cell? ⟨w.heap.size, 2, none⟩ = some (.slice A2 a.length c2) ∧ w'.cell? ⟨w.heap.size, 3, none⟩ = some (.slice A3 b.length c3)) W' := fun W' hb => box (blk_below hP2 hb)
 have hB0 : Below w2.heap.size w2 w2.drew := below_drew1 (Below.refl _ _)
 refine st 12 (fun w' => w'.cell? ⟨w.heap.size, 0, none⟩ = some (.int .i64 (u : Int)) ∧ w'.cell? ⟨w.heap.size, 1, none⟩ = some (.int .i64 s) ∧ w'.cell? ⟨w.heap.size, 2, none⟩ = some (.slice A2 a.length c2) ∧ w'.cell? ⟨w.heap.size, 3, none⟩ = some (.slice A3 b.length c3)) [10] (hSS _ hB0) (fun hHeld => ?_)
 refine pu 2 25 ?_
 refine tk 3 26 hHeld ?_
 refine pu 4 27 ?_
 rw [hu1q.out]
 refine pu 5 28 ?_
 refine tk 0 23 hHeld ?_
 refine on 1 24 (fun K hK => ?_)
 refine goes_ Tryd.func42 (by kernel_rfl) rfl #[.agg #[.int .i64 (u : Int), .int .i64 s, .slice A2 a.length c2, .slice A3 b.length c3]] (by rfl) rfl rfl (by (try simp only [List.map_toArray, List.map_cons, List.map_nil]); first | done | rfl) ?_
 with_reducible refine (htd.out _ (below_step hB3 hB0)).mono ?_
 rintro e w4 ⟨B2, d2, B3, d3, rfl, hMc4, hb4⟩
 refine ⟨_, rfl, ?_⟩
 have hB4 := below_step hB0 hb4
 refine hK.out _ _ (hSS _ hB4) (fun hHeld => ?_)
 clear hK K
 refine nm ?_
 refine on 6 29 (fun K hK => ?_)
 refine goes_ Tryd.func72 (by kernel_rfl) rfl #[.agg #[.int .i64 (u : Int), .int .i64 0, .slice B2 n d2, .slice B3 n d3], .int .i64 (u1 : Int), .func (.func 73) #[] #[.pointer (some ⟨w.heap.size + 1, 0, none⟩)]] (by rfl) rfl rfl (by (try simp only [List.map_toArray, List.map_cons, List.map_nil]); first | done | rfl) ?_
 with_reducible refine (hmp.out _ (below_step hb23 hB4) B2 d2 B3 d3 hMc4).mono ?_
 rintro e w5 ⟨D2, x2, D3, x3, rfl, hMc5, hb5⟩
 refine ⟨_, rfl, ?_⟩
 have hB5 := below_step hB4 hb5
 refine hK.out _ _ (hSS _ hB5) (fun hHeld => ?_)
 clear hK K
 refine nm ?_
 refine on 7 30 (fun K hK => ?_)
 refine goes_ Tryd.func63 (by kernel_rfl) rfl #[.agg #[.int .i64 (u1 : Int), .int .i64 0, .slice D2 n x2, .slice D3 n x3]] (by rfl) rfl rfl (by (try simp only [List.map_toArray, List.map_cons, List.map_nil]); first | done | rfl) ?_
 with_reducible refine (hti.out _ (below_step hB3 hB5) _ D2 x2 D3 x3 hMc5).mono ?_
 rintro e w6 ⟨F2, k2, F3, k3, rfl, hRy, hb6⟩
 refine ⟨_, rfl, ?_⟩
 have hB6 := below_step hB5 hb6
 refine hK.out _ _ (hSS _ hB6) (fun hHeld => ?_)
 clear hK K
 refine nm ?_
 refine pu 8 31 ?_
 refine pu 9 32 ?_
 have b0 : ZBox w6 (w.heap.size + 2) := blk_below hZ2 hB6
 obtain ⟨e0, e1, e2, e3⟩ := box b0
 obtain ⟨f0, f1, f2, f3⟩ := box_open b0
 refine la 10 (fun K hK => ?_)
 refine sk ((put4 w6 (w.heap.size + 2) RR.t RR.s F2 RR.a.length k2 F3 RR.b.length k3)) ?_
 refine hK.out _ _ ?_
 clear hK K e0 e1 e2 e3 f0 f1 f2 f3
 refine pu 11 5 ?_
 refine dn ?_
 go_wp2_with fail
 refine bodyPost_ret (results_ct rfl _ _ (w.heap.size + 2) 27 #[.int .i64 RR.t, .int .i64 RR.s, .slice F2 RR.a.length k2, .slice F3 RR.b.length k3] (0, 0) _ rfl (put_box b0) Tryd.underlying27 rfl (by kernel_rfl)) rfl ?_
 exact gives_put hRy b0 (below_step hB3 hB6) (by omega) (Below.size (below_step hB3 hB5))
end Go.Proofs.YtnjdkhnepmmfgaaDoor.Adi
namespace Go.Proofs.YtnjdkhnepmmfgaaDoor.Rsf
set_option linter.unusedVariables false
set_option linter.unusedSimpArgs false
open Go Go.RowKit Go.Proofs.YtnjdkhnepmmfgaaDoorW.PrintWords Go.Proofs.YtnjdkhnepmmfgaaDoorW.PrintLast Go.Proofs.YtnjdkhnepmmfgaaDoorW.PrintMore Kp Mg Mk Tdy Tf Tid Ti Tr Go.Proofs.YtnjdkhnepmmfgaaDoor.Op Ad Lr Gv Adt Jo Cod
/-- The domain with one tape more. -/
def wideR (s' : Int) (a' : List Bool) (b' : List (List Int)) : RRes := addR 1 1 s' a' b'
/-- What comes of a function and a domain. -/
def restR (t s : Int) (a : List Bool) (b : List (List Int)) (t' s' : Int) (a' : List Bool) (b' : List (List Int)) : RRes :=
 if domC t s a b t' s' a' b' = 0 then (if (wideR s' a' b').c = 0 then joinR (fun x y => x && y) t s a b (wideR s' a' b').t (wideR s' a' b').s (wideR s' a' b').a (wideR s' a' b').b else bad (wideR s' a' b').c) else bad (domC t s a b t' s' a' b')
theorem dom_ok {t s : Int} {a : List Bool} {b : List (List Int)} {t' s' : Int} {a' : List Bool} {b' : List (List Int)} (h : domC t s a b t' s' a' b' = 0) : okR ((1 : Nat) : Int) s' a' b' = true ∧ t' = ((1 : Nat) : Int) := by
 rw [domC_is] at h
 split at h
 ·rename_i h1
  split at h
  ·rename_i h2
   obtain ⟨h3, rfl⟩ := h2
   exact ⟨h1.2, rfl⟩
  ·cases h
 ·cases h
theorem wide_fit {s' : Int} {a' : List Bool} {b' : List (List Int)} (h : okR ((1 : Nat) : Int) s' a' b' = true) : Lw.Fit (wideR s' a' b') := addR_fit (by omega) (by omega) h
theorem join_fit (op : Bool → Bool → Bool) (t s : Int) (a : List Bool) (b : List (List Int)) (t' s' : Int) (a' : List Bool) (b' : List (List Int)) : Lw.Fit (joinR op t s a b t' s' a' b') := by
 unfold joinR
 split
 ·rename_i h
  obtain ⟨h1, h2, rfl⟩ := two2_ok h
  split
  ·have hk := okM_ok (Il.ok_tidy h1)
   obtain ⟨u, rfl⟩ : ∃ u : Nat, t = (u : Int) := ⟨t.toNat, hk.t0⟩
   obtain ⟨g1, g2, g3, g4, _, _⟩ := tidM_good h1
   obtain ⟨_, _, g5, g6, _, _⟩ := tidM_good h2
   rw [Int.toNat_natCast]
   exact Lw.fit_told u g1 _ (made_good (made_t (t := u) g1 (by rw [show (rowsD (tidM (u : Int) s a b).2 (tidM (u : Int) s' a' b').2 (wdOf u)).length = _ from List.length_map .., List.length_range]; exact Nat.mul_pos g4 g6) (rowsD_closed op g3 g5))).1
  ·exact Lw.fit_bad 3
 ·exact Lw.fit_bad _
theorem rest_fit (t s : Int) (a : List Bool) (b : List (List Int)) (t' s' : Int) (a' : List Bool) (b' : List (List Int)) : Lw.Fit (restR t s a b t' s' a' b') := by
 unfold restR
 split
 ·split
  ·exact join_fit _ _ _ _ _ _ _ _ _
  ·exact Lw.fit_bad _
 ·exact Lw.fit_bad _
set_option maxHeartbeats 4000000 in
theorem restS (t s : Int) (A2 : Option Addr) (c2 : Nat) (a : List Bool) (A3 : Option Addr) (c3 : Nat) (b : List (List Int)) (t' s' : Int) (B2 : Option Addr) (d2 : Nat) (a' : List Bool) (B3 : Option Addr) (d3 : Nat) (b' : List (List Int)) (w : World) (hA : Arg w A2 c2 a A3 c3 b) (hB : Arg w B2 d2 a' B3 d3 b') (hS : Small a b) (hS' : Small a' b') :
  Calls Tryd.prog 7 #[.agg #[.int .i64 t, .int .i64 s, .slice A2 a.length c2, .slice A3 b.length c3], .agg #[.int .i64 t', .int .i64 s', .slice B2 a'.length d2, .slice B3 b'.length d3]] w (Gives (restR t s a b t' s' a' b') w) := by
 have hb1 : Below w.heap.size w (((w.alloc (.cells #[.int .i64 t, .int .i64 s, .slice A2 a.length c2, .slice A3 b.length c3] 27)).alloc (.cells #[.int .i64 t', .int .i64 s', .slice B2 a'.length d2, .slice B3 b'.length d3] 27)).alloc (.cells #[.int .i64 0, .int .i64 0, .slice none 0 0, .slice none 0 0] 27)) := below_alloc (below_alloc (below_alloc (Below.refl _ _) _) _) _
 have hP : Box (((w.alloc (.cells #[.int .i64 t, .int .i64 s, .slice A2 a.length c2, .slice A3 b.length c3] 27)).alloc (.cells #[.int .i64 t', .int .i64 s', .slice B2 a'.length d2, .slice B3 b'.length d3] 27)).alloc (.cells #[.int .i64 0, .int .i64 0, .slice none 0 0, .slice none 0 0] 27)) w.heap.size t s A2 a.length c2 A3 b.length c3 := blk_alloc (blk_alloc (blk_new _ _) _) _
 have hQ : Box (((w.alloc (.cells #[.int .i64 t, .int .i64 s, .slice A2 a.length c2, .slice A3 b.length c3] 27)).alloc (.cells #[.int .i64 t', .int .i64 s', .slice B2 a'.length d2, .slice B3 b'.length d3] 27)).alloc (.cells #[.int .i64 0, .int .i64 0, .slice none 0 0, .slice none 0 0] 27)) (w.heap.size + 1) t' s' B2 a'.length d2 B3 b'.length d3 := blk_alloc (blk_at _ _ _ (by simp)) _
 have bZ : ZBox (((w.alloc (.cells #[.int .i64 t, .int .i64 s, .slice A2 a.length c2, .slice A3 b.length c3] 27)).alloc (.cells #[.int .i64 t', .int .i64 s', .slice B2 a'.length d2, .slice B3 b'.length d3] 27)).alloc (.cells #[.int .i64 0, .int .i64 0, .slice none 0 0, .slice none 0 0] 27)) (w.heap.size + 2) := blk_at _ _ _ (by simp)
 have hdom := Aside0.mk (dom_s w.heap.size (w.heap.size + 1) t s A2 c2 a A3 c3 b t' s' B2 d2 a' B3 d3 b' _ hP hQ (hA.below hb1) (hB.below hb1) hS hS')
 obtain ⟨p0, p1, p2, p3⟩ := box hP
 obtain ⟨q0, q1, q2, q3⟩ := box hQ
 by_cases h0 : domC t s a b t' s' a' b' = 0
 ·have h0q := Aside0.mk h0
  obtain ⟨hok, ht1⟩ := dom_ok h0
  have hF := Aside0.mk (wide_fit hok)
  have hadd : Aside0 (∀ W, Below w.heap.size w W → Calls Tryd.prog 25 #[.agg #[.int .i64 t', .int .i64 s', .slice B2 a'.length d2, .slice B3 b'.length d3], .int .i64 1] W (Gives (wideR s' a' b') W)) := ⟨fun W hb => by
   rw [ht1]
   exact addS 1 1 (by omega) (by omega) s' B2 d2 a' B3 d3 b' W (hB.below hb) hS' hok⟩
  obtain ⟨RW, hRW⟩ : ∃ RW, wideR s' a' b' = RW := ⟨_, rfl⟩
  have hRW2 := Aside0.mk hRW
  unfold restR
  rw [if_pos h0, hRW]
  rw [hRW] at hadd hF
  clear h0 hok hRW ht1
  by_cases hc : RW.c = 0
  ·rw [if_pos hc]
   have hcq := Aside0.mk hc
   have hjoin : Aside0 (∀ W F2 k2 F3 k3, Below w.heap.size w W → Arg W F2 k2 RW.a F3 k3 RW.b → Calls Tryd.prog 26 #[.agg #[.int .i64 t, .int .i64 s, .slice A2 a.length c2, .slice A3 b.length c3], .agg #[.int .i64 RW.t, .int .i64 RW.s, .slice F2 RW.a.length k2, .slice F3 RW.b.length k3]] W (Gives (joinR (fun x y => x && y) t s a b RW.t RW.s RW.a RW.b) W)) := ⟨fun W F2 k2 F3 k3 hb hX => both_s t s A2 c2 a A3 c3 b RW.t RW.s F2 k2 RW.a F3 k3 RW.b W (hA.below hb) hX hS hF.out.small⟩
   obtain ⟨RR, hRR⟩ : ∃ RR, joinR (fun x y => x && y) t s a b RW.t RW.s RW.a RW.b = RR := ⟨_, rfl⟩
   rw [hRR] at hjoin ⊢
   clear hc hRR
   go_enter Tryd.func7, Tryd.ntmps7
   go_wp2_with (first
    | (go_at_call 24; go_loud (
      with_reducible refine hdom.out.mono ?_
      rintro e w2 ⟨he, hb2⟩
      rw [h0q.out] at he
      subst he
      have hB2 := below_step hb1 hb2
      obtain ⟨q0, q1, q2, q3⟩ := box (blk_below hQ hb2)))
    | (go_at_call 25; go_loud (
      with_reducible refine (hadd.out w2 hB2).mono ?_
      rintro e w3 ⟨F2, k2, F3, k3, he, hRel, hb3⟩
      rw [hcq.out] at he
      subst he
      have hb3a : Below w3.heap.size w3 (w3.alloc (.cells #[.int .i64 RW.t, .int .i64 RW.s, .slice F2 RW.a.length k2, .slice F3 RW.b.length k3] 27)) := below_alloc (Below.refl _ _) _
      have hB3 := below_step (below_step hB2 hb3) hb3a
      obtain ⟨p0, p1, p2, p3⟩ := box (blk_below (blk_below (blk_below hP hb2) hb3) hb3a)
      have hX := blk_new w3 (.cells #[.int .i64 RW.t, .int .i64 RW.s, .slice F2 RW.a.length k2, .slice F3 RW.b.length k3] 27)
      obtain ⟨x0, x1, x2, x3⟩ := box hX))
    | (go_at_call 26; go_loud (
      with_reducible refine (hjoin.out _ F2 k2 F3 k3 hB3 ((Lw.rel_arg hRel).below hb3a)).mono ?_
      rintro e w4 ⟨G2, y2, G3, y3, rfl, hRy, hb4⟩
      have hB4 := below_step hB3 hb4
      have b0 : ZBox w4 (w.heap.size + 2) := blk_below (blk_below (blk_below (blk_below bZ hb2) hb3) hb3a) hb4
      obtain ⟨e0, e1, e2, e3⟩ := box b0
      obtain ⟨f0, f1, f2, f3⟩ := box_open b0)))
   refine bodyPost_ret (results_ct rfl _ _ (w.heap.size + 2) 27 #[.int .i64 RR.t, .int .i64 RR.s, .slice G2 RR.a.length y2, .slice G3 RR.b.length y3] (0, 0) _ rfl (put_box b0) Tryd.underlying27 rfl (by kernel_rfl)) rfl ?_
   exact gives_put hRy b0 hB4 (by omega) (Below.size hB3)
  ·rw [if_neg hc]
   obtain ⟨C, hC⟩ : ∃ C, RW.c = C := ⟨_, rfl⟩
   have hCq := Aside0.mk hC
   rw [hC] at hc ⊢
   have x1 : (C == 0) = false := beq_eq_false_iff_ne.mpr hc
   have x2 : (C != 0) = true := bne_iff_ne.mpr hc
   have x3 : (C = 0) = False := eq_false hc
   clear hc hC
   go_enter Tryd.func7, Tryd.ntmps7
   go_wp2_with (first
    | (go_at_call 24; go_loud (
      with_reducible refine hdom.out.mono ?_
      rintro e w2 ⟨he, hb2⟩
      rw [h0q.out] at he
      subst he
      have hB2 := below_step hb1 hb2
      obtain ⟨q0, q1, q2, q3⟩ := box (blk_below hQ hb2)))
    | (go_at_call 25; go_loud (
      with_reducible refine (hadd.out w2 hB2).mono ?_
      rintro e w3 ⟨F2, k2, F3, k3, he, hRel, hb3⟩
      rw [hCq.out] at he
      subst he
      have hb3a : Below w3.heap.size w3 (w3.alloc (.cells #[.int .i64 RW.t, .int .i64 RW.s, .slice F2 RW.a.length k2, .slice F3 RW.b.length k3] 27)) := below_alloc (Below.refl _ _) _
      have hB3 := below_step (below_step hB2 hb3) hb3a
      obtain ⟨p0, p1, p2, p3⟩ := box (blk_below (blk_below (blk_below hP hb2) hb3) hb3a)
      have hX := blk_new w3 (.cells #[.int .i64 RW.t, .int .i64 RW.s, .slice F2 RW.a.length k2, .slice F3 RW.b.length k3] 27)
      obtain ⟨x0, x1', x2', x3'⟩ := box hX
      have b0 : ZBox (w3.alloc (.cells #[.int .i64 RW.t, .int .i64 RW.s, .slice F2 RW.a.length k2, .slice F3 RW.b.length k3] 27)) (w.heap.size + 2) := blk_below (blk_below (blk_below bZ hb2) hb3) hb3a
      obtain ⟨e0, e1, e2, e3⟩ := box b0
      obtain ⟨f0, f1, f2, f3⟩ := box_open b0)))
   refine bodyPost_ret (results_ct rfl _ _ (w.heap.size + 2) 27 #[.int .i64 0, .int .i64 0, .slice none 0 0, .slice none 0 0] (0, 0) _ rfl (put_box b0) Tryd.underlying27 rfl (by kernel_rfl)) rfl ?_
   exact bad_put b0 hB3 (by omega)
 ·obtain ⟨C, hC⟩ : ∃ C, domC t s a b t' s' a' b' = C := ⟨_, rfl⟩
  have e : restR t s a b t' s' a' b' = bad C := by unfold restR; rw [if_neg h0, hC]
  rw [e]
  rw [hC] at h0 hdom
  have x1 : (C == 0) = false := beq_eq_false_iff_ne.mpr h0
  have x2 : (C != 0) = true := bne_iff_ne.mpr h0
  have x3 : (C = 0) = False := eq_false h0
  clear e h0 hC
  go_enter Tryd.func7, Tryd.ntmps7
  go_wp2_with (go_at_call 24; go_loud (
      with_reducible refine hdom.out.mono ?_
      rintro e w2 ⟨rfl, hb2⟩
      have hB2 := below_step hb1 hb2
      have b0 : ZBox w2 (w.heap.size + 2) := blk_below bZ hb2
      obtain ⟨e0, e1, e2, e3⟩ := box b0
      obtain ⟨f0, f1, f2, f3⟩ := box_open b0))
  refine bodyPost_ret (results_ct rfl _ _ (w.heap.size + 2) 27 #[.int .i64 0, .int .i64 0, .slice none 0 0, .slice none 0 0] (0, 0) _ rfl (put_box b0) Tryd.underlying27 rfl (by kernel_rfl)) rfl ?_
  exact bad_put b0 hB2 (by omega)
set_option maxHeartbeats 2000000 in
/-- The program's 'both' of two relations without fault, and of a fault. -/
theorem both_ok (t s : Int) (A2 : Option Addr) (c2 : Nat) (a : List Bool) (A3 : Option Addr) (c3 : Nat) (b : List (List Int)) (t' s' : Int) (B2 : Option Addr) (d2 : Nat) (a' : List Bool) (B3 : Option Addr) (d3 : Nat) (b' : List (List Int)) (w : World) (hA : Arg w A2 c2 a A3 c3 b) (hB : Arg w B2 d2 a' B3 d3 b') (hS : Small a b) (hS' : Small a' b') (hG : Glob w) :
  Calls Tryd.prog 31 #[.agg #[.int .i64 t, .int .i64 s, .slice A2 a.length c2, .slice A3 b.length c3], .int .i64 0, .agg #[.int .i64 t', .int .i64 s', .slice B2 a'.length d2, .slice B3 b'.length d3], .int .i64 0] w (Gives (joinR (fun x y => x && y) t s a b t' s' a' b') w) := by
 have hb1 : Below w.heap.size w (((w.alloc (.cells #[.int .i64 t, .int .i64 s, .slice A2 a.length c2, .slice A3 b.length c3] 27)).alloc (.cells #[.int .i64 t', .int .i64 s', .slice B2 a'.length d2, .slice B3 b'.length d3] 27)).alloc (.cells #[.int .i64 0, .int .i64 0, .slice none 0 0, .slice none 0 0] 27)) := below_alloc (below_alloc (below_alloc (Below.refl _ _) _) _) _
 have hP : Box (((w.alloc (.cells #[.int .i64 t, .int .i64 s, .slice A2 a.length c2, .slice A3 b.length c3] 27)).alloc (.cells #[.int .i64 t', .int .i64 s', .slice B2 a'.length d2, .slice B3 b'.length d3] 27)).alloc (.cells #[.int .i64 0, .int .i64 0, .slice none 0 0, .slice none 0 0] 27)) w.heap.size t s A2 a.length c2 A3 b.length c3 := blk_alloc (blk_alloc (blk_new _ _) _) _
 have hQ : Box (((w.alloc (.cells #[.int .i64 t, .int .i64 s, .slice A2 a.length c2, .slice A3 b.length c3] 27)).alloc (.cells #[.int .i64 t', .int .i64 s', .slice B2 a'.length d2, .slice B3 b'.length d3] 27)).alloc (.cells #[.int .i64 0, .int .i64 0, .slice none 0 0, .slice none 0 0] 27)) (w.heap.size + 1) t' s' B2 a'.length d2 B3 b'.length d3 := blk_alloc (blk_at _ _ _ (by simp)) _
 have bZ : ZBox (((w.alloc (.cells #[.int .i64 t, .int .i64 s, .slice A2 a.length c2, .slice A3 b.length c3] 27)).alloc (.cells #[.int .i64 t', .int .i64 s', .slice B2 a'.length d2, .slice B3 b'.length d3] 27)).alloc (.cells #[.int .i64 0, .int .i64 0, .slice none 0 0, .slice none 0 0] 27)) (w.heap.size + 2) := blk_at _ _ _ (by simp)
 have hj := Aside0.mk (both_i t s A2 c2 a A3 c3 b t' s' B2 d2 a' B3 d3 b' _ (hA.below hb1) (hB.below hb1) hS hS' (glob_below hG hb1))
 obtain ⟨RR, hRR⟩ : ∃ RR, joinR (fun x y => x && y) t s a b t' s' a' b' = RR := ⟨_, rfl⟩
 rw [hRR] at hj ⊢
 obtain ⟨p0, p1, p2, p3⟩ := box hP
 obtain ⟨q0, q1, q2, q3⟩ := box hQ
 clear hRR
 go_enter Tryd.func31, Tryd.ntmps31
 go_wp2_with (go_at_call 75; go_loud (
     with_reducible refine hj.out.mono ?_
     rintro e w3 ⟨F2, k2, F3, k3, rfl, hRy, hb3⟩
     have hBy := below_step hb1 hb3
     have b0 : ZBox w3 (w.heap.size + 2) := blk_below bZ hb3
     obtain ⟨e0, e1, e2, e3⟩ := box b0
     obtain ⟨f0, f1, f2, f3⟩ := box_open b0))
 refine bodyPost_ret (results_ct rfl _ _ (w.heap.size + 2) 27 #[.int .i64 RR.t, .int .i64 RR.s, .slice F2 RR.a.length k2, .slice F3 RR.b.length k3] (0, 0) _ rfl (put_box b0) Tryd.underlying27 rfl (by kernel_rfl)) rfl ?_
 exact gives_put hRy b0 hBy (by omega) (Below.size hb1)
set_option maxHeartbeats 2000000 in
theorem both_bad (t s : Int) (A2 : Option Addr) (c2 n2 : Nat) (A3 : Option Addr) (c3 n3 : Nat) (t' s' : Int) (B2 : Option Addr) (d2 m2 : Nat) (B3 : Option Addr) (d3 m3 : Nat) (C : Int) (w : World) (h0 : C ≠ 0) :
  Calls Tryd.prog 31 #[.agg #[.int .i64 t, .int .i64 s, .slice A2 n2 c2, .slice A3 n3 c3], .int .i64 0, .agg #[.int .i64 t', .int .i64 s', .slice B2 m2 d2, .slice B3 m3 d3], .int .i64 C] w (Gives (bad C) w) := by
 have b0 : ZBox (((w.alloc (.cells #[.int .i64 t, .int .i64 s, .slice A2 n2 c2, .slice A3 n3 c3] 27)).alloc (.cells #[.int .i64 t', .int .i64 s', .slice B2 m2 d2, .slice B3 m3 d3] 27)).alloc (.cells #[.int .i64 0, .int .i64 0, .slice none 0 0, .slice none 0 0] 27)) (w.heap.size + 2) := blk_at _ _ _ (by simp)
 have hb1 : Below w.heap.size w (((w.alloc (.cells #[.int .i64 t, .int .i64 s, .slice A2 n2 c2, .slice A3 n3 c3] 27)).alloc (.cells #[.int .i64 t', .int .i64 s', .slice B2 m2 d2, .slice B3 m3 d3] 27)).alloc (.cells #[.int .i64 0, .int .i64 0, .slice none 0 0, .slice none 0 0] 27)) := below_alloc (below_alloc (below_alloc (Below.refl _ _) _) _) _
 obtain ⟨e0, e1, e2, e3⟩ := box b0
 obtain ⟨f0, f1, f2, f3⟩ := box_open b0
 have x1 : (C == 0) = false := beq_eq_false_iff_ne.mpr h0
 have x2 : (C != 0) = true := bne_iff_ne.mpr h0
 have x3 : (C = 0) = False := eq_false h0
 clear h0
 go_enter Tryd.func31, Tryd.ntmps31
 go_wp2_with fail
 clear e0 e1 e2 e3 f0 f1 f2 f3
 generalize (((w.alloc (.cells #[.int .i64 t, .int .i64 s, .slice A2 n2 c2, .slice A3 n3 c3] 27)).alloc (.cells #[.int .i64 t', .int .i64 s', .slice B2 m2 d2, .slice B3 m3 d3] 27)).alloc (.cells #[.int .i64 0, .int .i64 0, .slice none 0 0, .slice none 0 0] 27)) = w3 at b0 hb1 ⊢
 refine bodyPost_ret (results_ct rfl _ _ (w.heap.size + 2) 27 #[.int .i64 0, .int .i64 0, .slice none 0 0, .slice none 0 0] (0, 0) _ rfl b0 Tryd.underlying27 rfl (by kernel_rfl)) rfl ?_
 exact gives_bad rfl hb1
set_option maxHeartbeats 4000000 in
theorem restI (t s : Int) (A2 : Option Addr) (c2 : Nat) (a : List Bool) (A3 : Option Addr) (c3 : Nat) (b : List (List Int)) (t' s' : Int) (B2 : Option Addr) (d2 : Nat) (a' : List Bool) (B3 : Option Addr) (d3 : Nat) (b' : List (List Int)) (w : World) (hA : Arg w A2 c2 a A3 c3 b) (hB : Arg w B2 d2 a' B3 d3 b') (hS : Small a b) (hS' : Small a' b') (hG : Glob w) :
  Calls Tryd.prog 9 #[.agg #[.int .i64 t, .int .i64 s, .slice A2 a.length c2, .slice A3 b.length c3], .agg #[.int .i64 t', .int .i64 s', .slice B2 a'.length d2, .slice B3 b'.length d3]] w (Gives (restR t s a b t' s' a' b') w) := by
 have hb1 : Below w.heap.size w (((w.alloc (.cells #[.int .i64 t, .int .i64 s, .slice A2 a.length c2, .slice A3 b.length c3] 27)).alloc (.cells #[.int .i64 t', .int .i64 s', .slice B2 a'.length d2, .slice B3 b'.length d3] 27)).alloc (.cells #[.int .i64 0, .int .i64 0, .slice none 0 0, .slice none 0 0] 27)) := below_alloc (below_alloc (below_alloc (Below.refl _ _) _) _) _
 have hP : Box (((w.alloc (.cells #[.int .i64 t, .int .i64 s, .slice A2 a.length c2, .slice A3 b.length c3] 27)).alloc (.cells #[.int .i64 t', .int .i64 s', .slice B2 a'.length d2, .slice B3 b'.length d3] 27)).alloc (.cells #[.int .i64 0, .int .i64 0, .slice none 0 0, .slice none 0 0] 27)) w.heap.size t s A2 a.length c2 A3 b.length c3 := blk_alloc (blk_alloc (blk_new _ _) _) _
 have hQ : Box (((w.alloc (.cells #[.int .i64 t, .int .i64 s, .slice A2 a.length c2, .slice A3 b.length c3] 27)).alloc (.cells #[.int .i64 t', .int .i64 s', .slice B2 a'.length d2, .slice B3 b'.length d3] 27)).alloc (.cells #[.int .i64 0, .int .i64 0, .slice none 0 0, .slice none 0 0] 27)) (w.heap.size + 1) t' s' B2 a'.length d2 B3 b'.length d3 := blk_alloc (blk_at _ _ _ (by simp)) _
 have bZ : ZBox (((w.alloc (.cells #[.int .i64 t, .int .i64 s, .slice A2 a.length c2, .slice A3 b.length c3] 27)).alloc (.cells #[.int .i64 t', .int .i64 s', .slice B2 a'.length d2, .slice B3 b'.length d3] 27)).alloc (.cells #[.int .i64 0, .int .i64 0, .slice none 0 0, .slice none 0 0] 27)) (w.heap.size + 2) := blk_at _ _ _ (by simp)
 have hdom := Aside0.mk (dom_i t s A2 c2 a A3 c3 b t' s' B2 d2 a' B3 d3 b' _ (hA.below hb1) (hB.below hb1) hS hS')
 have hGq := Aside0.mk hG
 obtain ⟨p0, p1, p2, p3⟩ := box hP
 obtain ⟨q0, q1, q2, q3⟩ := box hQ
 by_cases h0 : domC t s a b t' s' a' b' = 0
 ·have h0q := Aside0.mk h0
  obtain ⟨hok, ht1⟩ := dom_ok h0
  have hF := Aside0.mk (wide_fit hok)
  have hadd : Aside0 (∀ W, Below w.heap.size w W → Calls Tryd.prog 30 #[.agg #[.int .i64 t', .int .i64 s', .slice B2 a'.length d2, .slice B3 b'.length d3], .int .i64 1] W (Gives (wideR s' a' b') W)) := ⟨fun W hb => by
   rw [ht1]
   exact Adi.addI 1 1 (by omega) (by omega) s' B2 d2 a' B3 d3 b' W (hB.below hb) hS' (glob_below hGq.out hb) hok⟩
  obtain ⟨RW, hRW⟩ : ∃ RW, wideR s' a' b' = RW := ⟨_, rfl⟩
  have hRW2 := Aside0.mk hRW
  unfold restR
  rw [if_pos h0, hRW]
  rw [hRW] at hadd hF
  clear h0 hok hRW ht1
  by_cases hc : RW.c = 0
  ·rw [if_pos hc]
   have hcq := Aside0.mk hc
   have hjoin : Aside0 (∀ W F2 k2 F3 k3, Below w.heap.size w W → Arg W F2 k2 RW.a F3 k3 RW.b → Calls Tryd.prog 31 #[.agg #[.int .i64 t, .int .i64 s, .slice A2 a.length c2, .slice A3 b.length c3], .int .i64 0, .agg #[.int .i64 RW.t, .int .i64 RW.s, .slice F2 RW.a.length k2, .slice F3 RW.b.length k3], .int .i64 0] W (Gives (joinR (fun x y => x && y) t s a b RW.t RW.s RW.a RW.b) W)) := ⟨fun W F2 k2 F3 k3 hb hX => both_ok t s A2 c2 a A3 c3 b RW.t RW.s F2 k2 RW.a F3 k3 RW.b W (hA.below hb) hX hS hF.out.small (glob_below hGq.out hb)⟩
   obtain ⟨RR, hRR⟩ : ∃ RR, joinR (fun x y => x && y) t s a b RW.t RW.s RW.a RW.b = RR := ⟨_, rfl⟩
   rw [hRR] at hjoin ⊢
   clear hc hRR
   go_enter Tryd.func9, Tryd.ntmps9
   go_wp2_with (first
    | (go_at_call 29; go_loud (
      with_reducible refine hdom.out.mono ?_
      rintro e w2 ⟨he, hb2⟩
      rw [h0q.out] at he
      subst he
      have hB2 := below_step hb1 hb2
      obtain ⟨q0, q1, q2, q3⟩ := box (blk_below hQ hb2)))
    | (go_at_call 30; go_loud (
      with_reducible refine (hadd.out w2 hB2).mono ?_
      rintro e w3 ⟨F2, k2, F3, k3, he, hRel, hb3⟩
      rw [hcq.out] at he
      subst he
      have hb3a : Below w3.heap.size w3 (w3.alloc (.cells #[.int .i64 RW.t, .int .i64 RW.s, .slice F2 RW.a.length k2, .slice F3 RW.b.length k3] 27)) := below_alloc (Below.refl _ _) _
      have hB3 := below_step (below_step hB2 hb3) hb3a
      obtain ⟨p0, p1, p2, p3⟩ := box (blk_below (blk_below (blk_below hP hb2) hb3) hb3a)
      have hX := blk_new w3 (.cells #[.int .i64 RW.t, .int .i64 RW.s, .slice F2 RW.a.length k2, .slice F3 RW.b.length k3] 27)
      obtain ⟨x0, x1, x2, x3⟩ := box hX))
    | (go_at_call 31; go_loud (
      with_reducible refine (hjoin.out _ F2 k2 F3 k3 hB3 ((Lw.rel_arg hRel).below hb3a)).mono ?_
      rintro e w4 ⟨G2, y2, G3, y3, rfl, hRy, hb4⟩
      have hB4 := below_step hB3 hb4
      have b0 : ZBox w4 (w.heap.size + 2) := blk_below (blk_below (blk_below (blk_below bZ hb2) hb3) hb3a) hb4
      obtain ⟨e0, e1, e2, e3⟩ := box b0
      obtain ⟨f0, f1, f2, f3⟩ := box_open b0)))
   refine bodyPost_ret (results_ct rfl _ _ (w.heap.size + 2) 27 #[.int .i64 RR.t, .int .i64 RR.s, .slice G2 RR.a.length y2, .slice G3 RR.b.length y3] (0, 0) _ rfl (put_box b0) Tryd.underlying27 rfl (by kernel_rfl)) rfl ?_
   exact gives_put hRy b0 hB4 (by omega) (Below.size hB3)
  ·rw [if_neg hc]
   obtain ⟨C, hC⟩ : ∃ C, RW.c = C := ⟨_, rfl⟩
   have hCq := Aside0.mk hC
   rw [hC] at hc ⊢
   have x1 : (C == 0) = false := beq_eq_false_iff_ne.mpr hc
   have x2 : (C != 0) = true := bne_iff_ne.mpr hc
   have x3 : (C = 0) = False := eq_false hc
   have hjoin : Aside0 (∀ W F2 k2 F3 k3, Calls Tryd.prog 31 #[.agg #[.int .i64 t, .int .i64 s, .slice A2 a.length c2, .slice A3 b.length c3], .int .i64 0, .agg #[.int .i64 RW.t, .int .i64 RW.s, .slice F2 RW.a.length k2, .slice F3 RW.b.length k3], .int .i64 C] W (Gives (bad C) W)) := ⟨fun W F2 k2 F3 k3 => both_bad t s A2 c2 a.length A3 c3 b.length RW.t RW.s F2 k2 RW.a.length F3 k3 RW.b.length C W hc⟩
   clear hc hC
   go_enter Tryd.func9, Tryd.ntmps9
   go_wp2_with (first
    | (go_at_call 29; go_loud (
      with_reducible refine hdom.out.mono ?_
      rintro e w2 ⟨he, hb2⟩
      rw [h0q.out] at he
      subst he
      have hB2 := below_step hb1 hb2
      obtain ⟨q0, q1, q2, q3⟩ := box (blk_below hQ hb2)))
    | (go_at_call 30; go_loud (
      with_reducible refine (hadd.out w2 hB2).mono ?_
      rintro e w3 ⟨F2, k2, F3, k3, he, hRel, hb3⟩
      rw [hCq.out] at he
      subst he
      have hb3a : Below w3.heap.size w3 (w3.alloc (.cells #[.int .i64 RW.t, .int .i64 RW.s, .slice F2 RW.a.length k2, .slice F3 RW.b.length k3] 27)) := below_alloc (Below.refl _ _) _
      have hB3 := below_step (below_step hB2 hb3) hb3a
      obtain ⟨p0, p1, p2, p3⟩ := box (blk_below (blk_below (blk_below hP hb2) hb3) hb3a)
      have hX := blk_new w3 (.cells #[.int .i64 RW.t, .int .i64 RW.s, .slice F2 RW.a.length k2, .slice F3 RW.b.length k3] 27)
      obtain ⟨x0, x1', x2', x3'⟩ := box hX
      have b0 : ZBox (w3.alloc (.cells #[.int .i64 RW.t, .int .i64 RW.s, .slice F2 RW.a.length k2, .slice F3 RW.b.length k3] 27)) (w.heap.size + 2) := blk_below (blk_below (blk_below bZ hb2) hb3) hb3a
      obtain ⟨e0, e1, e2, e3⟩ := box b0
      obtain ⟨f0, f1, f2, f3⟩ := box_open b0))
    | (go_at_call 31; go_loud (
      with_reducible refine (hjoin.out _ F2 k2 F3 k3).mono ?_
      rintro e w4 ⟨G2, y2, G3, y3, rfl, hRy, hb4⟩
      have hB4 := below_step hB3 hb4
      have b0 : ZBox w4 (w.heap.size + 2) := blk_below b0 hb4
      obtain ⟨e0, e1, e2, e3⟩ := box b0
      obtain ⟨f0, f1, f2, f3⟩ := box_open b0)))
   refine bodyPost_ret (results_ct rfl _ _ (w.heap.size + 2) 27 #[.int .i64 (bad C).t, .int .i64 (bad C).s, .slice G2 (bad C).a.length y2, .slice G3 (bad C).b.length y3] (0, 0) _ rfl (put_box b0) Tryd.underlying27 rfl (by kernel_rfl)) rfl ?_
   exact gives_put hRy b0 hB4 (by omega) (Below.size hB3)
 ·obtain ⟨C, hC⟩ : ∃ C, domC t s a b t' s' a' b' = C := ⟨_, rfl⟩
  have e : restR t s a b t' s' a' b' = bad C := by unfold restR; rw [if_neg h0, hC]
  rw [e]
  rw [hC] at h0 hdom
  have x1 : (C == 0) = false := beq_eq_false_iff_ne.mpr h0
  have x2 : (C != 0) = true := bne_iff_ne.mpr h0
  have x3 : (C = 0) = False := eq_false h0
  clear e h0 hC
  go_enter Tryd.func9, Tryd.ntmps9
  go_wp2_with (go_at_call 29; go_loud (
      with_reducible refine hdom.out.mono ?_
      rintro e w2 ⟨rfl, hb2⟩
      have hB2 := below_step hb1 hb2
      have b0 : ZBox w2 (w.heap.size + 2) := blk_below bZ hb2
      obtain ⟨e0, e1, e2, e3⟩ := box b0
      obtain ⟨f0, f1, f2, f3⟩ := box_open b0))
  refine bodyPost_ret (results_ct rfl _ _ (w.heap.size + 2) 27 #[.int .i64 0, .int .i64 0, .slice none 0 0, .slice none 0 0] (0, 0) _ rfl (put_box b0) Tryd.underlying27 rfl (by kernel_rfl)) rfl ?_
  exact bad_put b0 hB2 (by omega)
end Go.Proofs.YtnjdkhnepmmfgaaDoor.Rsf
namespace Go.Proofs.YtnjdkhnepmmfgaaDoor.Lw2
set_option linter.unusedVariables false
set_option linter.unusedSimpArgs false
open Go Go.RowKit Go.Proofs.YtnjdkhnepmmfgaaDoorW.PrintWords Go.Proofs.YtnjdkhnepmmfgaaDoorW.PrintLast Go.Proofs.YtnjdkhnepmmfgaaDoorW.PrintMore Kp Mg Mk Rt Tdy Tf Tid Ti Tr PT3 PureRel Go.Proofs.YtnjdkhnepmmfgaaDoor.Pure Lr Gv Lw
theorem szRel_ev2 (s t : Int) (a : List Bool) (c : List (List Int)) (n : Int) (h0 : 0 ≤ n) (hn : n ≤ 1048576) (ha : a.length ≤ 9223372036854775807) (hl : c.length ≤ 9223372036854775807) (hs : ∀ x ∈ c, x.length ≤ 9223372036854775807) :
  ∃ r, r ≤ 1048576 ∧ Ev (fun k => laws_szRelation.f k s t a c n) r ∧ (0 ≤ r → a.length ≤ 1048576 ∧ c.length ≤ 1048576 ∧ (∀ x ∈ c, x.length ≤ 1048576) ∧ (c.map List.length).sum ≤ 1048576) := by
 have w1 : wrap64 (n - a.length) = n - a.length := wrap_id (by omega) (by omega)
 unfold laws_szRelation.f laws_szBoolS.f
 rw [w1]
 by_cases q : n - (a.length : Int) < 0
 ·exact ⟨-1, by omega, Ev.congr (fun k => by rw [if_pos q, Option.bind_some, if_pos (by decide)]) (Ev.now _), fun h => absurd h (by omega)⟩
 ·obtain ⟨r, hr, hrn, hrl⟩ := szRows_ev c (n - a.length) (by omega) (by omega) hl hs
  by_cases q2 : r < 0
  ·refine ⟨-1, by omega, Ev.congr (f := fun k => (laws_szInt64SS.f k c (n - a.length)).bind fun t => if t < 0 then some (-1) else some t) (fun k => by rw [if_neg q, Option.bind_some, if_neg q]) ?_, fun h => absurd h (by omega)⟩
   exact Ev.bind hr (ev_ift q2 (Ev.now _))
  ·refine ⟨r, by omega, Ev.congr (f := fun k => (laws_szInt64SS.f k c (n - a.length)).bind fun t => if t < 0 then some (-1) else some t) (fun k => by rw [if_neg q, Option.bind_some, if_neg q]) ?_, fun h => ⟨by omega, hrl h⟩⟩
   exact Ev.bind hr (ev_iff q2 (Ev.now _))
/-- What stands in memory: the arguments' boxes, the awaited relation, the copies that were handed over, the relation that was given. -/
structure St2 (w : World) (P Q : Array Value) (gW eW gX gY gG : Nat) (bW bX bY bG : Bx) (wa : List Bool) (wb : List (List Int)) (xa : List Bool) (xb : List (List Int)) (ya : List Bool) (yb : List (List Int)) (ga : List Bool) (gb : List (List Int)) (W : World) : Prop where
 bel : Below w.heap.size w W
 p : W.heap[w.heap.size]? = some (.cells P 25 (0, 0))
 q : W.heap[w.heap.size + 1]? = some (.cells Q 25 (0, 0))
 pw : W.heap[gW]? = some (.cells bW.cells 27 (0, 0))
 px : W.heap[gX]? = some (.cells bX.cells 27 (0, 0))
 py : W.heap[gY]? = some (.cells bY.cells 27 (0, 0))
 pg : W.heap[gG]? = some (.cells bG.cells 27 (0, 0))
 l0 : w.heap.size + 2 ≤ gW
 lW : gW < eW
 lX : eW ≤ gX
 lY : gX < gY
 lG : gY < gG
 nX2 : bX.n2 = xa.length
 nX3 : bX.n3 = xb.length
 nY2 : bY.n2 = ya.length
 nY3 : bY.n3 = yb.length
 nG2 : bG.n2 = ga.length
 nG3 : bG.n3 = gb.length
 rW : Rel W (w.heap.size + 2) (fun k => k < eW) bW.A2 bW.c2 wa bW.A3 bW.c3 wb
 rX : Rel W eW (fun k => k < gX) bX.A2 bX.c2 xa bX.A3 bX.c3 xb
 rY : Rel W (gX + 1) (fun k => k < gY) bY.A2 bY.c2 ya bY.A3 bY.c3 yb
 rG : Rel W (gY + 1) (fun k => k < gG) bG.A2 bG.c2 ga bG.A3 bG.c3 gb
section
variable {w W W' : World} {P Q : Array Value} {gW eW gX gY gG : Nat} {bW bX bY bG : Bx} {wa xa ya ga xa' ya' ga' : List Bool} {wb xb yb gb xb' yb' gb' : List (List Int)}
theorem St2.below (h : St2 w P Q gW eW gX gY gG bW bX bY bG wa wb xa xb ya yb ga gb W) (hb : Below W.heap.size W W') : St2 w P Q gW eW gX gY gG bW bX bY bG wa wb xa xb ya yb ga gb W' :=
 { h with bel := below_step h.bel hb, p := blk_below h.p hb, q := blk_below h.q hb, pw := blk_below h.pw hb, px := blk_below h.px hb, py := blk_below h.py hb, pg := blk_below h.pg hb, rW := h.rW.below hb, rX := h.rX.below hb, rY := h.rY.below hb, rG := h.rG.below hb }
theorem St2.markX (h : St2 w P Q gW eW gX gY gG bW bX bY bG wa wb xa xb ya yb ga gb W) (hk : KeepS eW W W' (fun k => k < gX)) (hr : Rel W' eW (fun k => k < gX) bX.A2 bX.c2 xa' bX.A3 bX.c3 xb') (h2 : xa'.length = xa.length) (h3 : xb'.length = xb.length) : St2 w P Q gW eW gX gY gG bW bX bY bG wa wb xa' xb' ya yb ga gb W' := by
 have l0 := h.l0
 have l1 := h.lW
 have l2 := h.lX
 have l3 := h.lY
 have l4 := h.lG
 exact { h with bel := h.bel.trans (hk.bel.mono (by omega)), p := (hk.bel.block _ (by omega)).trans h.p, q := (hk.bel.block _ (by omega)).trans h.q, pw := (hk.bel.block _ (by omega)).trans h.pw, px := (hk.blk _ (blk_lt h.px) (by omega)).trans h.px, py := (hk.blk _ (blk_lt h.py) (by omega)).trans h.py, pg := (hk.blk _ (blk_lt h.pg) (by omega)).trans h.pg, nX2 := by rw [h2]; exact h.nX2, nX3 := by rw [h3]; exact h.nX3, rW := h.rW.step (fun k hk' _ => hk.bel.block k (by omega)), rX := hr, rY := h.rY.bound.step (fun k hk' hlt => hk.blk k hlt (by omega)) |>.mono (fun k hk' => hk'.1), rG := h.rG.bound.step (fun k hk' hlt => hk.blk k hlt (by omega)) |>.mono (fun k hk' => hk'.1) }
theorem St2.markY (h : St2 w P Q gW eW gX gY gG bW bX bY bG wa wb xa xb ya yb ga gb W) (hk : KeepS (gX + 1) W W' (fun k => k < gY)) (hr : Rel W' (gX + 1) (fun k => k < gY) bY.A2 bY.c2 ya' bY.A3 bY.c3 yb') (h2 : ya'.length = ya.length) (h3 : yb'.length = yb.length) : St2 w P Q gW eW gX gY gG bW bX bY bG wa wb xa xb ya' yb' ga gb W' := by
 have l0 := h.l0
 have l1 := h.lW
 have l2 := h.lX
 have l3 := h.lY
 have l4 := h.lG
 exact { h with bel := h.bel.trans (hk.bel.mono (by omega)), p := (hk.bel.block _ (by omega)).trans h.p, q := (hk.bel.block _ (by omega)).trans h.q, pw := (hk.bel.block _ (by omega)).trans h.pw, px := (hk.bel.block _ (by omega)).trans h.px, py := (hk.blk _ (blk_lt h.py) (by omega)).trans h.py, pg := (hk.blk _ (blk_lt h.pg) (by omega)).trans h.pg, nY2 := by rw [h2]; exact h.nY2, nY3 := by rw [h3]; exact h.nY3, rW := h.rW.step (fun k hk' _ => hk.bel.block k (by omega)), rX := h.rX.step (fun k hk' _ => hk.bel.block k (by omega)), rY := hr, rG := h.rG.bound.step (fun k hk' hlt => hk.blk k hlt (by omega)) |>.mono (fun k hk' => hk'.1) }
theorem St2.markG (h : St2 w P Q gW eW gX gY gG bW bX bY bG wa wb xa xb ya yb ga gb W) (hk : KeepS (gY + 1) W W' (fun k => k < gG)) (hr : Rel W' (gY + 1) (fun k => k < gG) bG.A2 bG.c2 ga' bG.A3 bG.c3 gb') (h2 : ga'.length = ga.length) (h3 : gb'.length = gb.length) : St2 w P Q gW eW gX gY gG bW bX bY bG wa wb xa xb ya yb ga' gb' W' := by
 have l0 := h.l0
 have l1 := h.lW
 have l2 := h.lX
 have l3 := h.lY
 have l4 := h.lG
 exact { h with bel := h.bel.trans (hk.bel.mono (by omega)), p := (hk.bel.block _ (by omega)).trans h.p, q := (hk.bel.block _ (by omega)).trans h.q, pw := (hk.bel.block _ (by omega)).trans h.pw, px := (hk.bel.block _ (by omega)).trans h.px, py := (hk.bel.block _ (by omega)).trans h.py, pg := (hk.blk _ (blk_lt h.pg) (by omega)).trans h.pg, nG2 := by rw [h2]; exact h.nG2, nG3 := by rw [h3]; exact h.nG3, rW := h.rW.step (fun k hk' _ => hk.bel.block k (by omega)), rX := h.rX.step (fun k hk' _ => hk.bel.block k (by omega)), rY := h.rY.step (fun k hk' _ => hk.bel.block k (by omega)), rG := hr }
theorem St2.leX (h : St2 w P Q gW eW gX gY gG bW bX bY bG wa wb xa xb ya yb ga gb W) : eW ≤ W.heap.size := by have := blk_lt h.px; have := h.lX; omega
theorem St2.leY (h : St2 w P Q gW eW gX gY gG bW bX bY bG wa wb xa xb ya yb ga gb W) : gX + 1 ≤ W.heap.size := blk_lt h.px
theorem St2.leG (h : St2 w P Q gW eW gX gY gG bW bX bY bG wa wb xa xb ya yb ga gb W) : gY + 1 ≤ W.heap.size := blk_lt h.py
theorem St2.heldB {n : Nat} (h : St2 w P Q gW eW gX gY gG bW bX bY bG wa wb xa xb ya yb (mB 1 n) gb W) : Kd.C Kd.bool W bG.A2 n (mB 1 n) := by
 have := (rel_arg h.rG).r2
 rwa [mB_length] at this
theorem St2.heldR {k : Nat} {l : List (List Int)} (h : St2 w P Q gW eW gX gY gG bW bX bY bG wa wb xa xb ya yb ga (mR k l) W) : Kd.C Row W bG.A3 l.length (mR k l) := by
 have := (rel_arg h.rG).r3
 rwa [mR_length] at this
end
set_option maxHeartbeats 1000000 in
theorem mark2 {T : Nat} (k : Nat) (t s : Int) (A2 : Option Addr) (c2 : Nat) (a : List Bool) (A3 : Option Addr) (c3 : Nat) (b : List (List Int)) (w : World) (base : Nat) (ok : Nat → Prop) (hle : base ≤ w.heap.size) (h : Rel w base ok A2 c2 a A3 c3 b) (hl : b.length ≤ 2000000) (hk : k + a.length + tot b ≤ 1000000000) (hT : k + a.length + tot b = T) :
  Calls Tryd.prog 11 #[.agg #[.int .i64 t, .int .i64 s, .slice A2 a.length c2, .slice A3 b.length c3], .int .i64 (k : Int)] w fun e w' => e = .returned (.int .i64 (T : Int)) ∧ Rel w' base ok A2 c2 (mB k a.length) A3 c3 (mR (k + a.length) b) ∧ KeepS base w w' ok := by
 subst hT
 exact markRel k t s A2 c2 a A3 c3 b w base ok hle h hl hk
end Go.Proofs.YtnjdkhnepmmfgaaDoor.Lw2
namespace Go.Proofs.YtnjdkhnepmmfgaaDoor.LwR
set_option linter.unusedVariables false
set_option linter.unusedSimpArgs false
open Go Go.RowKit Go.Proofs.YtnjdkhnepmmfgaaDoorW.PrintWords Go.Proofs.YtnjdkhnepmmfgaaDoorW.PrintLast Go.Proofs.YtnjdkhnepmmfgaaDoorW.PrintMore Kp Mg Mk Rt Tdy Tf Tid Ti Tr PT3 PureRel Go.Proofs.YtnjdkhnepmmfgaaDoor.Pure Lr Gv Lw Lw2
set_option maxHeartbeats 8000000 in
set_option maxRecDepth 100000 in
theorem law_calls (t s : Int) (A2 : Option Addr) (c2 : Nat) (a : List Bool) (A3 : Option Addr) (c3 : Nat) (b : List (List Int)) (t' s' : Int) (B2 : Option Addr) (d2 : Nat) (a' : List Bool) (B3 : Option Addr) (d3 : Nat) (b' : List (List Int)) (w : World) (hA : Arg w A2 c2 a A3 c3 b) (hB : Arg w B2 d2 a' B3 d3 b') (hG : Glob w) (ka : a.length ≤ 9223372036854775807) (kb : b.length ≤ 9223372036854775807) (kr : ∀ r ∈ b, r.length ≤ 9223372036854775807) (ka' : a'.length ≤ 9223372036854775807) (kb' : b'.length ≤ 9223372036854775807) (kr' : ∀ r ∈ b', r.length ≤ 9223372036854775807) :
  Calls Tryd.prog 3 #[.agg #[.int .i64 t, .int .i64 s, .slice A2 a.length c2, .slice A3 b.length c3], .agg #[.int .i64 t', .int .i64 s', .slice B2 a'.length d2, .slice B3 b'.length d3]] w fun e w' => e = .returned (.bool true) ∧ Below w.heap.size w w' := by
 obtain ⟨z, hzu, hz, hzl⟩ := szRel_ev2 t s a b 1048576 (by omega) (by omega) ka kb kr
 obtain ⟨kz, hkz⟩ := hz.rounds
 have hsz := Aside0.mk hkz
 have hb1 : Below w.heap.size w ((w.alloc (.cells #[.int .i64 t, .int .i64 s, .slice A2 a.length c2, .slice A3 b.length c3] 25)).alloc (.cells #[.int .i64 t', .int .i64 s', .slice B2 a'.length d2, .slice B3 b'.length d3] 25)) := below_alloc (below_alloc (Below.refl _ _) _) _
 have hP1 : ((w.alloc (.cells #[.int .i64 t, .int .i64 s, .slice A2 a.length c2, .slice A3 b.length c3] 25)).alloc (.cells #[.int .i64 t', .int .i64 s', .slice B2 a'.length d2, .slice B3 b'.length d3] 25)).heap[w.heap.size]? = some (.cells #[.int .i64 t, .int .i64 s, .slice A2 a.length c2, .slice A3 b.length c3] 25 (0, 0)) := blk_alloc (blk_new _ _) _
 have hQ1 : ((w.alloc (.cells #[.int .i64 t, .int .i64 s, .slice A2 a.length c2, .slice A3 b.length c3] 25)).alloc (.cells #[.int .i64 t', .int .i64 s', .slice B2 a'.length d2, .slice B3 b'.length d3] 25)).heap[w.heap.size + 1]? = some (.cells #[.int .i64 t', .int .i64 s', .slice B2 a'.length d2, .slice B3 b'.length d3] 25 (0, 0)) := blk_at _ _ _ (by simp)
 have hG2 := Aside0.mk hG
 have p1_0 : ((w.alloc (.cells #[.int .i64 t, .int .i64 s, .slice A2 a.length c2, .slice A3 b.length c3] 25)).alloc (.cells #[.int .i64 t', .int .i64 s', .slice B2 a'.length d2, .slice B3 b'.length d3] 25)).cell? ⟨w.heap.size, 0, none⟩ = some (.int .i64 t) := (blk_cell hP1 0).trans rfl
 have p1_1 : ((w.alloc (.cells #[.int .i64 t, .int .i64 s, .slice A2 a.length c2, .slice A3 b.length c3] 25)).alloc (.cells #[.int .i64 t', .int .i64 s', .slice B2 a'.length d2, .slice B3 b'.length d3] 25)).cell? ⟨w.heap.size, 1, none⟩ = some (.int .i64 s) := (blk_cell hP1 1).trans rfl
 have p1_2 : ((w.alloc (.cells #[.int .i64 t, .int .i64 s, .slice A2 a.length c2, .slice A3 b.length c3] 25)).alloc (.cells #[.int .i64 t', .int .i64 s', .slice B2 a'.length d2, .slice B3 b'.length d3] 25)).cell? ⟨w.heap.size, 2, none⟩ = some (.slice A2 a.length c2) := (blk_cell hP1 2).trans rfl
 have p1_3 : ((w.alloc (.cells #[.int .i64 t, .int .i64 s, .slice A2 a.length c2, .slice A3 b.length c3] 25)).alloc (.cells #[.int .i64 t', .int .i64 s', .slice B2 a'.length d2, .slice B3 b'.length d3] 25)).cell? ⟨w.heap.size, 3, none⟩ = some (.slice A3 b.length c3) := (blk_cell hP1 3).trans rfl
 have q1_0 : ((w.alloc (.cells #[.int .i64 t, .int .i64 s, .slice A2 a.length c2, .slice A3 b.length c3] 25)).alloc (.cells #[.int .i64 t', .int .i64 s', .slice B2 a'.length d2, .slice B3 b'.length d3] 25)).cell? ⟨w.heap.size + 1, 0, none⟩ = some (.int .i64 t') := (blk_cell hQ1 0).trans rfl
 have q1_1 : ((w.alloc (.cells #[.int .i64 t, .int .i64 s, .slice A2 a.length c2, .slice A3 b.length c3] 25)).alloc (.cells #[.int .i64 t', .int .i64 s', .slice B2 a'.length d2, .slice B3 b'.length d3] 25)).cell? ⟨w.heap.size + 1, 1, none⟩ = some (.int .i64 s') := (blk_cell hQ1 1).trans rfl
 have q1_2 : ((w.alloc (.cells #[.int .i64 t, .int .i64 s, .slice A2 a.length c2, .slice A3 b.length c3] 25)).alloc (.cells #[.int .i64 t', .int .i64 s', .slice B2 a'.length d2, .slice B3 b'.length d3] 25)).cell? ⟨w.heap.size + 1, 2, none⟩ = some (.slice B2 a'.length d2) := (blk_cell hQ1 2).trans rfl
 have q1_3 : ((w.alloc (.cells #[.int .i64 t, .int .i64 s, .slice A2 a.length c2, .slice A3 b.length c3] 25)).alloc (.cells #[.int .i64 t', .int .i64 s', .slice B2 a'.length d2, .slice B3 b'.length d3] 25)).cell? ⟨w.heap.size + 1, 3, none⟩ = some (.slice B3 b'.length d3) := (blk_cell hQ1 3).trans rfl
 clear hz hkz hG
 by_cases h0 : z < 0
 ·have z1 : (z < 0) = True := eq_true h0
  clear h0
  go_enter Tryd.func3, Tryd.ntmps3
  go_wp2_with (go_at_call 6; go_loud (
   with_reducible refine (laws_szRelation.calls kz t s A2 c2 a A3 c3 b 1048576 z _ (hA.below hb1).r2 hA.l2 (hA.below hb1).r3 hA.l3 hsz.out).mono ?_
   rintro e w2 ⟨rfl, hb2⟩
   have hB2 := below_step hb1 hb2))
  go_ret
  exact ⟨rfl, hB2⟩
 ·obtain ⟨x1, x2', x3', x4⟩ := hzl (by omega)
  have hS : Small a b := ⟨x1, x2', x3'⟩
  obtain ⟨y, hyu, hy, hyl⟩ := szRel_ev2 t' s' a' b' z (by omega) hzu ka' kb' kr'
  obtain ⟨ky, hky⟩ := hy.rounds
  have hsy := Aside0.mk hky
  have z1 : (z < 0) = False := eq_false h0
  clear hy hky h0
  by_cases h0 : y < 0
  ·have y1 : (y < 0) = True := eq_true h0
   clear h0
   go_enter Tryd.func3, Tryd.ntmps3
   go_wp2_with (first
    | (go_at_call 6; (with_reducible refine (laws_szRelation.calls kz t s A2 c2 a A3 c3 b 1048576 z _ (hA.below hb1).r2 hA.l2 (hA.below hb1).r3 hA.l3 hsz.out).mono ?_); go_loud (
      rintro e w2 ⟨rfl, hb2⟩
      have hB2 := below_step hb1 hb2
      have hQ2 := blk_below hQ1 hb2
      have q2_0 : w2.cell? ⟨w.heap.size + 1, 0, none⟩ = some (.int .i64 t') := (blk_cell hQ2 0).trans rfl
      have q2_1 : w2.cell? ⟨w.heap.size + 1, 1, none⟩ = some (.int .i64 s') := (blk_cell hQ2 1).trans rfl
      have q2_2 : w2.cell? ⟨w.heap.size + 1, 2, none⟩ = some (.slice B2 a'.length d2) := (blk_cell hQ2 2).trans rfl
      have q2_3 : w2.cell? ⟨w.heap.size + 1, 3, none⟩ = some (.slice B3 b'.length d3) := (blk_cell hQ2 3).trans rfl))
    | (go_at_call 6; (with_reducible refine (laws_szRelation.calls ky t' s' B2 d2 a' B3 d3 b' z y w2 (hB.below hB2).r2 hB.l2 (hB.below hB2).r3 hB.l3 hsy.out).mono ?_); go_loud (
      rintro e w3 ⟨rfl, hb3⟩
      have hB3 := below_step hB2 hb3)))
   go_ret
   exact ⟨rfl, hB3⟩
  ·obtain ⟨x5, x6, x7, x8⟩ := hyl (by omega)
   have hS' : Small a' b' := ⟨x5, x6, x7⟩
   obtain ⟨kt, hkt⟩ := (toRel_ev t s a b hS.la hS.lb hS.lr).rounds
   have htr := Aside0.mk hkt
   obtain ⟨kt2, hkt2⟩ := (toRel_ev t' s' a' b' hS'.la hS'.lb hS'.lr).rounds
   have htr2 := Aside0.mk hkt2
   have y1 : (y < 0) = False := eq_false h0
   obtain ⟨RR, hRR⟩ : ∃ RR, Rsf.restR t s a b t' s' a' b' = RR := ⟨_, rfl⟩
   have hRq := Aside0.mk hRR
   have hF : Aside0 (Fit RR) := ⟨by rw [← hRR]; exact Rsf.rest_fit _ _ _ _ _ _ _ _⟩
   obtain ⟨TX, hTX⟩ : ∃ T, 1 + a.length + tot b = T := ⟨_, rfl⟩
   obtain ⟨TY, hTY⟩ : ∃ T, TX + a'.length + tot b' = T := ⟨_, rfl⟩
   obtain ⟨TG, hTG⟩ : ∃ T, 1 + RR.a.length + tot RR.b = T := ⟨_, rfl⟩
   have hTXq := Aside0.mk hTX
   have hTYq := Aside0.mk hTY
   have hTGq := Aside0.mk hTG
   have hXl : Aside0 (1 + a.length + tot b ≤ 1000000000) := ⟨by unfold tot; omega⟩
   have hYl : Aside0 (TX + a'.length + tot b' ≤ 1000000000) := ⟨by have := hXl.out; rw [← hTX]; unfold tot; omega⟩
   have hGl : Aside0 (1 + RR.a.length + tot RR.b ≤ 1000000000) := ⟨by have := hF.out.tot; have := hF.out.a; omega⟩
   have n0 : ((TY : Int) < 0) = False := eq_false (by omega)
   have n1 : ((TG : Int) < 0) = False := eq_false (by omega)
   have n2 : ((TG : Int) != (TG : Int)) = false := by simp
   have n3 : (RR.c != RR.c) = false := by simp
   clear h0 hkt hkt2 hRR hzl hyl hTX hTY hTG x1 x2' x3' x4 x5 x6 x7 x8 hzu hyu
   go_enter Tryd.func3, Tryd.ntmps3
   go_wp2_with (first
    | (go_at_call 6; (with_reducible refine (laws_szRelation.calls kz t s A2 c2 a A3 c3 b 1048576 z _ (hA.below hb1).r2 hA.l2 (hA.below hb1).r3 hA.l3 hsz.out).mono ?_); go_loud (
      rintro e w2 ⟨rfl, hb2⟩
      have hB2 := below_step hb1 hb2
      have hQ2 := blk_below hQ1 hb2
      have hP2 := blk_below hP1 hb2
      have q2_0 : w2.cell? ⟨w.heap.size + 1, 0, none⟩ = some (.int .i64 t') := (blk_cell hQ2 0).trans rfl
      have q2_1 : w2.cell? ⟨w.heap.size + 1, 1, none⟩ = some (.int .i64 s') := (blk_cell hQ2 1).trans rfl
      have q2_2 : w2.cell? ⟨w.heap.size + 1, 2, none⟩ = some (.slice B2 a'.length d2) := (blk_cell hQ2 2).trans rfl
      have q2_3 : w2.cell? ⟨w.heap.size + 1, 3, none⟩ = some (.slice B3 b'.length d3) := (blk_cell hQ2 3).trans rfl))
    | (go_at_call 6; (with_reducible refine (laws_szRelation.calls ky t' s' B2 d2 a' B3 d3 b' z y w2 (hB.below hB2).r2 hB.l2 (hB.below hB2).r3 hB.l3 hsy.out).mono ?_); go_loud (
      rintro e w3 ⟨rfl, hb3⟩
      have hB3 := below_step hB2 hb3
      have hQ3 := blk_below hQ2 hb3
      have hP3 := blk_below hP2 hb3)))
   have hlw3 : Aside0 (w.heap.size + 2 ≤ w3.heap.size) := ⟨by have := blk_lt hQ3; omega⟩
   clear p1_0 p1_1 p1_2 p1_3 q1_0 q1_1 q1_2 q1_3 q2_0 q2_1 q2_2 q2_3 hb1 hP1 hQ1 hB2 hb2 hb3 hQ2 hP2
   have mhSS : ∀ W', Below w3.heap.size w3 W' → (fun w' => w'.cell? ⟨w.heap.size, 0, none⟩ = some (.int .i64 t) ∧ w'.cell? ⟨w.heap.size, 1, none⟩ = some (.int .i64 s) ∧ w'.cell? ⟨w.heap.size, 2, none⟩ = some (.slice A2 a.length c2) ∧ w'.cell? ⟨w.heap.size, 3, none⟩ = some (.slice A3 b.length c3) ∧ w'.cell? ⟨w.heap.size + 1, 0, none⟩ = some (.int .i64 t') ∧ w'.cell? ⟨w.heap.size + 1, 1, none⟩ = some (.int .i64 s') ∧ w'.cell? ⟨w.heap.size + 1, 2, none⟩ = some (.slice B2 a'.length d2) ∧ w'.cell? ⟨w.heap.size + 1, 3, none⟩ = some (.slice B3 b'.length d3)) W' := fun W' hb => ⟨(blk_cell (blk_below hP3 hb) 0).trans rfl, (blk_cell (blk_below hP3 hb) 1).trans rfl, (blk_cell (blk_below hP3 hb) 2).trans rfl, (blk_cell (blk_below hP3 hb) 3).trans rfl, (blk_cell (blk_below hQ3 hb) 0).trans rfl, (blk_cell (blk_below hQ3 hb) 1).trans rfl, (blk_cell (blk_below hQ3 hb) 2).trans rfl, (blk_cell (blk_below hQ3 hb) 3).trans rfl⟩
   have mhB0 : Below w3.heap.size w3 w3.drew := below_drew1 (Below.refl _ _)
   refine st 11 (fun w' => w'.cell? ⟨w.heap.size, 0, none⟩ = some (.int .i64 t) ∧ w'.cell? ⟨w.heap.size, 1, none⟩ = some (.int .i64 s) ∧ w'.cell? ⟨w.heap.size, 2, none⟩ = some (.slice A2 a.length c2) ∧ w'.cell? ⟨w.heap.size, 3, none⟩ = some (.slice A3 b.length c3) ∧ w'.cell? ⟨w.heap.size + 1, 0, none⟩ = some (.int .i64 t') ∧ w'.cell? ⟨w.heap.size + 1, 1, none⟩ = some (.int .i64 s') ∧ w'.cell? ⟨w.heap.size + 1, 2, none⟩ = some (.slice B2 a'.length d2) ∧ w'.cell? ⟨w.heap.size + 1, 3, none⟩ = some (.slice B3 b'.length d3)) [9] (mhSS _ mhB0) (fun hHeld => ?_)
   refine tk 0 28 hHeld ?_
   refine tk 2 30 hHeld ?_
   refine join_ (σ := Option Addr × Nat × Option Addr × Nat × Option Addr × Nat × Option Addr × Nat × Option Addr × Nat × Option Addr × Nat × Nat) 2 #[true, true, true, true, true, true, true, true, true, false, false] (fun z => [(29, .agg #[.int .i64 t, .int .i64 s, .slice z.1 a.length z.2.1, .slice z.2.2.1 b.length z.2.2.2.1]), (31, .agg #[.int .i64 t', .int .i64 s', .slice z.2.2.2.2.1 a'.length z.2.2.2.2.2.1, .slice z.2.2.2.2.2.2.1 b'.length z.2.2.2.2.2.2.2.1]), (32, .tuple #[.agg #[.int .i64 RR.t, .int .i64 RR.s, .slice z.2.2.2.2.2.2.2.2.1 RR.a.length z.2.2.2.2.2.2.2.2.2.1, .slice z.2.2.2.2.2.2.2.2.2.2.1 RR.b.length z.2.2.2.2.2.2.2.2.2.2.2.1], .int .i64 RR.c]), (27, .tuple #[.agg #[.int .i64 RR.t, .int .i64 RR.s, .slice z.2.2.2.2.2.2.2.2.1 RR.a.length z.2.2.2.2.2.2.2.2.2.1, .slice z.2.2.2.2.2.2.2.2.2.2.1 RR.b.length z.2.2.2.2.2.2.2.2.2.2.2.1], .int .i64 RR.c]), (33, .agg #[.int .i64 RR.t, .int .i64 RR.s, .slice z.2.2.2.2.2.2.2.2.1 RR.a.length z.2.2.2.2.2.2.2.2.2.1, .slice z.2.2.2.2.2.2.2.2.2.2.1 RR.b.length z.2.2.2.2.2.2.2.2.2.2.2.1]), (34, .int .i64 RR.c), (6, .pointer (some ⟨z.2.2.2.2.2.2.2.2.2.2.2.2, 0, none⟩))])
    (fun z w' => Rel w' w3.heap.size (fun _ => True) z.2.2.2.2.2.2.2.2.1 z.2.2.2.2.2.2.2.2.2.1 RR.a z.2.2.2.2.2.2.2.2.2.2.1 z.2.2.2.2.2.2.2.2.2.2.2.1 RR.b ∧ ZBox w' (z.2.2.2.2.2.2.2.2.2.2.2.2) ∧ Below w3.heap.size w3 w' ∧ w3.heap.size ≤ z.2.2.2.2.2.2.2.2.2.2.2.2) ?_ ?_
   rotate_left
   ·intro hCont
    refine two_ (i := 1) (j := 8) (Ni := some 29) (Nj := some 6) #[true, true, true, false, false, false, false, false, false, false, false] #[true, false, true, false, false, false, false, false, true, false, false] rfl rfl rfl rfl (by kernel_rfl) (by decide) (by decide) (fun K hK => ?_) (fun K hK => ?_)
    ·skip
     refine goes_ Tryd.func8 (by kernel_rfl) rfl #[.agg #[.int .i64 t, .int .i64 s, .slice A2 a.length c2, .slice A3 b.length c3]] (by rfl) rfl rfl (by (try simp only [List.map_toArray, List.map_cons, List.map_nil]); first | done | rfl) ?_
     with_reducible refine (laws_toRelation.calls kt t s A2 c2 a A3 c3 b _ _ _ _ _ (hA.below (below_step hB3 mhB0)).r2 hA.l2 (hA.below (below_step hB3 mhB0)).r3 hA.l3 htr.out).mono ?_
     rintro e V1 ⟨q2, q3, rfl, r2, r3, hb1⟩
     obtain ⟨C2, k2, e2⟩ := Kd.R_slice r2
     subst e2
     obtain ⟨C3, k3, e3⟩ := Kd.S_slice r3
     subst e3
     have hAr1 : Arg V1 C2 k2 a C3 k3 b := rel_arg ⟨r2, r3⟩
     clear r2 r3
     refine ⟨_, rfl, ?_⟩
     have hB1 := below_step mhB0 hb1
     refine hK.out _ _ (mhSS _ hB1) (fun hHeld => ?_)
     clear hK K
     refine nm ?_
     refine two_ (i := 3) (j := 8) (Ni := some 31) (Nj := some 6) #[true, true, true, true, false, false, false, false, false, false, false] #[true, true, true, false, false, false, false, false, true, false, false] rfl rfl rfl rfl (by kernel_rfl) (by decide) (by decide) (fun K hK => ?_) (fun K hK => ?_)
     ·skip
      refine goes_ Tryd.func8 (by kernel_rfl) rfl #[.agg #[.int .i64 t', .int .i64 s', .slice B2 a'.length d2, .slice B3 b'.length d3]] (by rfl) rfl rfl (by (try simp only [List.map_toArray, List.map_cons, List.map_nil]); first | done | rfl) ?_
      with_reducible refine (laws_toRelation.calls kt2 t' s' B2 d2 a' B3 d3 b' _ _ _ _ _ (hB.below (below_step hB3 hB1)).r2 hB.l2 (hB.below (below_step hB3 hB1)).r3 hB.l3 htr2.out).mono ?_
      rintro e V2 ⟨q2, q3, rfl, r2, r3, hb2⟩
      obtain ⟨D2, l2, e2⟩ := Kd.R_slice r2
      subst e2
      obtain ⟨D3, l3, e3⟩ := Kd.S_slice r3
      subst e3
      have hAr3 : Arg V2 D2 l2 a' D3 l3 b' := rel_arg ⟨r2, r3⟩
      clear r2 r3
      refine ⟨_, rfl, ?_⟩
      have hB2 := below_step hB1 hb2
      refine hK.out _ _ (mhSS _ hB2) (fun hHeld => ?_)
      clear hK K
      refine nm ?_
      refine two_ (i := 4) (j := 8) (Ni := some 32) (Nj := some 6) #[true, true, true, true, true, false, false, false, false, false, false] #[true, true, true, true, false, false, false, false, true, false, false] rfl rfl rfl rfl (by kernel_rfl) (by decide) (by decide) (fun K hK => ?_) (fun K hK => ?_)
      ·skip
       refine goes_ Tryd.func7 (by kernel_rfl) rfl #[.agg #[.int .i64 t, .int .i64 s, .slice C2 a.length k2, .slice C3 b.length k3], .agg #[.int .i64 t', .int .i64 s', .slice D2 a'.length l2, .slice D3 b'.length l3]] (by rfl) rfl rfl (by (try simp only [List.map_toArray, List.map_cons, List.map_nil]); first | done | rfl) ?_
       have q := Rsf.restS t s C2 k2 a C3 k3 b t' s' D2 l2 a' D3 l3 b' _ (hAr1.below hb2) hAr3 hS hS'
       rw [hRq.out] at q
       with_reducible refine q.mono ?_
       clear q
       rintro e V3 ⟨W2, v2, W3, v3, rfl, hRW, hb3⟩
       refine ⟨_, rfl, ?_⟩
       have hB3 := below_step hB2 hb3
       refine hK.out _ _ (mhSS _ hB3) (fun hHeld => ?_)
       clear hK K
       refine nm ?_
       refine pu 5 27 ?_
       refine pu 6 33 ?_
       refine pu 7 34 ?_
       refine one_ (i := 8) (N := some 6) (zb 11 511) rfl rfl (by kernel_rfl) (by decide) (fun K hK => ?_)
       refine value_ (w1 := (V3.alloc (.cells #[.int .i64 0, .int .i64 0, .slice none 0 0, .slice none 0 0] 27))) (v := .pointer (some ⟨V3.heap.size, 0, none⟩)) (by rfl) rfl (by first | (go_simp; done) | (go_simp; rfl)) ?_
       have hb4 : Below V3.heap.size V3 (V3.alloc (.cells #[.int .i64 0, .int .i64 0, .slice none 0 0, .slice none 0 0] 27)) := below_alloc (Below.refl _ _) _
       have hB4 := below_step hB3 hb4
       have hX4 := blk_new V3 (.cells #[.int .i64 0, .int .i64 0, .slice none 0 0, .slice none 0 0] 27)
       refine hK.out _ _ (mhSS _ hB4) (fun hHeld => ?_)
       clear hK K
       refine nm ?_
       exact norm_ (by simp only [putAll, Act.put, List.setIfInBounds_toArray, List.set_cons_zero, List.set_cons_succ]) (hCont (C2, k2, C3, k3, D2, l2, D3, l3, W2, v2, W3, v3, V3.heap.size) _ ⟨rel_lower (hRW.below hb4) (Below.size hB2), hX4, hB4, Below.size hB3⟩)
      ·skip
       refine value_ (w1 := (V2.alloc (.cells #[.int .i64 0, .int .i64 0, .slice none 0 0, .slice none 0 0] 27))) (v := .pointer (some ⟨V2.heap.size, 0, none⟩)) (by rfl) rfl (by first | (go_simp; done) | (go_simp; rfl)) ?_
       have hb3 : Below V2.heap.size V2 (V2.alloc (.cells #[.int .i64 0, .int .i64 0, .slice none 0 0, .slice none 0 0] 27)) := below_alloc (Below.refl _ _) _
       have hB3 := below_step hB2 hb3
       have hX3 := blk_new V2 (.cells #[.int .i64 0, .int .i64 0, .slice none 0 0, .slice none 0 0] 27)
       refine hK.out _ _ (mhSS _ hB3) (fun hHeld => ?_)
       clear hK K
       refine nm ?_
       refine one_ (i := 4) (N := some 32) (zb 11 287) rfl rfl (by kernel_rfl) (by decide) (fun K hK => ?_)
       refine goes_ Tryd.func7 (by kernel_rfl) rfl #[.agg #[.int .i64 t, .int .i64 s, .slice C2 a.length k2, .slice C3 b.length k3], .agg #[.int .i64 t', .int .i64 s', .slice D2 a'.length l2, .slice D3 b'.length l3]] (by rfl) rfl rfl (by (try simp only [List.map_toArray, List.map_cons, List.map_nil]); first | done | rfl) ?_
       have q := Rsf.restS t s C2 k2 a C3 k3 b t' s' D2 l2 a' D3 l3 b' _ ((hAr1.below hb2).below hb3) (hAr3.below hb3) hS hS'
       rw [hRq.out] at q
       with_reducible refine q.mono ?_
       clear q
       rintro e V4 ⟨W2, v2, W3, v3, rfl, hRW, hb4⟩
       refine ⟨_, rfl, ?_⟩
       have hB4 := below_step hB3 hb4
       have hX4 := blk_below hX3 hb4
       refine hK.out _ _ (mhSS _ hB4) (fun hHeld => ?_)
       clear hK K
       refine nm ?_
       refine pu 5 27 ?_
       refine pu 6 33 ?_
       refine pu 7 34 ?_
       exact norm_ (by simp only [putAll, Act.put, List.setIfInBounds_toArray, List.set_cons_zero, List.set_cons_succ]) (hCont (C2, k2, C3, k3, D2, l2, D3, l3, W2, v2, W3, v3, V2.heap.size) _ ⟨rel_lower hRW (Below.size hB3), hX4, hB4, Below.size hB2⟩)
     ·skip
      refine value_ (w1 := (V1.alloc (.cells #[.int .i64 0, .int .i64 0, .slice none 0 0, .slice none 0 0] 27))) (v := .pointer (some ⟨V1.heap.size, 0, none⟩)) (by rfl) rfl (by first | (go_simp; done) | (go_simp; rfl)) ?_
      have hb2 : Below V1.heap.size V1 (V1.alloc (.cells #[.int .i64 0, .int .i64 0, .slice none 0 0, .slice none 0 0] 27)) := below_alloc (Below.refl _ _) _
      have hB2 := below_step hB1 hb2
      have hX2 := blk_new V1 (.cells #[.int .i64 0, .int .i64 0, .slice none 0 0, .slice none 0 0] 27)
      refine hK.out _ _ (mhSS _ hB2) (fun hHeld => ?_)
      clear hK K
      refine nm ?_
      refine one_ (i := 3) (N := some 31) (zb 11 271) rfl rfl (by kernel_rfl) (by decide) (fun K hK => ?_)
      refine goes_ Tryd.func8 (by kernel_rfl) rfl #[.agg #[.int .i64 t', .int .i64 s', .slice B2 a'.length d2, .slice B3 b'.length d3]] (by rfl) rfl rfl (by (try simp only [List.map_toArray, List.map_cons, List.map_nil]); first | done | rfl) ?_
      with_reducible refine (laws_toRelation.calls kt2 t' s' B2 d2 a' B3 d3 b' _ _ _ _ _ (hB.below (below_step hB3 hB2)).r2 hB.l2 (hB.below (below_step hB3 hB2)).r3 hB.l3 htr2.out).mono ?_
      rintro e V3 ⟨q2, q3, rfl, r2, r3, hb3⟩
      obtain ⟨D2, l2, e2⟩ := Kd.R_slice r2
      subst e2
      obtain ⟨D3, l3, e3⟩ := Kd.S_slice r3
      subst e3
      have hAr3 : Arg V3 D2 l2 a' D3 l3 b' := rel_arg ⟨r2, r3⟩
      clear r2 r3
      refine ⟨_, rfl, ?_⟩
      have hB3 := below_step hB2 hb3
      have hX3 := blk_below hX2 hb3
      refine hK.out _ _ (mhSS _ hB3) (fun hHeld => ?_)
      clear hK K
      refine nm ?_
      refine one_ (i := 4) (N := some 32) (zb 11 287) rfl rfl (by kernel_rfl) (by decide) (fun K hK => ?_)
      refine goes_ Tryd.func7 (by kernel_rfl) rfl #[.agg #[.int .i64 t, .int .i64 s, .slice C2 a.length k2, .slice C3 b.length k3], .agg #[.int .i64 t', .int .i64 s', .slice D2 a'.length l2, .slice D3 b'.length l3]] (by rfl) rfl rfl (by (try simp only [List.map_toArray, List.map_cons, List.map_nil]); first | done | rfl) ?_
      have q := Rsf.restS t s C2 k2 a C3 k3 b t' s' D2 l2 a' D3 l3 b' _ ((hAr1.below hb2).below hb3) hAr3 hS hS'
      rw [hRq.out] at q
      with_reducible refine q.mono ?_
      clear q
      rintro e V4 ⟨W2, v2, W3, v3, rfl, hRW, hb4⟩
      refine ⟨_, rfl, ?_⟩
      have hB4 := below_step hB3 hb4
      have hX4 := blk_below hX3 hb4
      refine hK.out _ _ (mhSS _ hB4) (fun hHeld => ?_)
      clear hK K
      refine nm ?_
      refine pu 5 27 ?_
      refine pu 6 33 ?_
      refine pu 7 34 ?_
      exact norm_ (by simp only [putAll, Act.put, List.setIfInBounds_toArray, List.set_cons_zero, List.set_cons_succ]) (hCont (C2, k2, C3, k3, D2, l2, D3, l3, W2, v2, W3, v3, V1.heap.size) _ ⟨rel_lower hRW (Below.size hB3), hX4, hB4, Below.size hB1⟩)
    ·skip
     refine value_ (w1 := (w3.drew.alloc (.cells #[.int .i64 0, .int .i64 0, .slice none 0 0, .slice none 0 0] 27))) (v := .pointer (some ⟨w3.drew.heap.size, 0, none⟩)) (by rfl) rfl (by first | (go_simp; done) | (go_simp; rfl)) ?_
     have hb1 : Below w3.drew.heap.size w3.drew (w3.drew.alloc (.cells #[.int .i64 0, .int .i64 0, .slice none 0 0, .slice none 0 0] 27)) := below_alloc (Below.refl _ _) _
     have hB1 := below_step mhB0 hb1
     have hX1 := blk_new w3.drew (.cells #[.int .i64 0, .int .i64 0, .slice none 0 0, .slice none 0 0] 27)
     refine hK.out _ _ (mhSS _ hB1) (fun hHeld => ?_)
     clear hK K
     refine nm ?_
     refine one_ (i := 1) (N := some 29) (zb 11 263) rfl rfl (by kernel_rfl) (by decide) (fun K hK => ?_)
     refine goes_ Tryd.func8 (by kernel_rfl) rfl #[.agg #[.int .i64 t, .int .i64 s, .slice A2 a.length c2, .slice A3 b.length c3]] (by rfl) rfl rfl (by (try simp only [List.map_toArray, List.map_cons, List.map_nil]); first | done | rfl) ?_
     with_reducible refine (laws_toRelation.calls kt t s A2 c2 a A3 c3 b _ _ _ _ _ (hA.below (below_step hB3 hB1)).r2 hA.l2 (hA.below (below_step hB3 hB1)).r3 hA.l3 htr.out).mono ?_
     rintro e V2 ⟨q2, q3, rfl, r2, r3, hb2⟩
     obtain ⟨C2, k2, e2⟩ := Kd.R_slice r2
     subst e2
     obtain ⟨C3, k3, e3⟩ := Kd.S_slice r3
     subst e3
     have hAr1 : Arg V2 C2 k2 a C3 k3 b := rel_arg ⟨r2, r3⟩
     clear r2 r3
     refine ⟨_, rfl, ?_⟩
     have hB2 := below_step hB1 hb2
     have hX2 := blk_below hX1 hb2
     refine hK.out _ _ (mhSS _ hB2) (fun hHeld => ?_)
     clear hK K
     refine nm ?_
     refine one_ (i := 3) (N := some 31) (zb 11 271) rfl rfl (by kernel_rfl) (by decide) (fun K hK => ?_)
     refine goes_ Tryd.func8 (by kernel_rfl) rfl #[.agg #[.int .i64 t', .int .i64 s', .slice B2 a'.length d2, .slice B3 b'.length d3]] (by rfl) rfl rfl (by (try simp only [List.map_toArray, List.map_cons, List.map_nil]); first | done | rfl) ?_
     with_reducible refine (laws_toRelation.calls kt2 t' s' B2 d2 a' B3 d3 b' _ _ _ _ _ (hB.below (below_step hB3 hB2)).r2 hB.l2 (hB.below (below_step hB3 hB2)).r3 hB.l3 htr2.out).mono ?_
     rintro e V3 ⟨q2, q3, rfl, r2, r3, hb3⟩
     obtain ⟨D2, l2, e2⟩ := Kd.R_slice r2
     subst e2
     obtain ⟨D3, l3, e3⟩ := Kd.S_slice r3
     subst e3
     have hAr3 : Arg V3 D2 l2 a' D3 l3 b' := rel_arg ⟨r2, r3⟩
     clear r2 r3
     refine ⟨_, rfl, ?_⟩
     have hB3 := below_step hB2 hb3
     have hX3 := blk_below hX2 hb3
     refine hK.out _ _ (mhSS _ hB3) (fun hHeld => ?_)
     clear hK K
     refine nm ?_
     refine one_ (i := 4) (N := some 32) (zb 11 287) rfl rfl (by kernel_rfl) (by decide) (fun K hK => ?_)
     refine goes_ Tryd.func7 (by kernel_rfl) rfl #[.agg #[.int .i64 t, .int .i64 s, .slice C2 a.length k2, .slice C3 b.length k3], .agg #[.int .i64 t', .int .i64 s', .slice D2 a'.length l2, .slice D3 b'.length l3]] (by rfl) rfl rfl (by (try simp only [List.map_toArray, List.map_cons, List.map_nil]); first | done | rfl) ?_
     have q := Rsf.restS t s C2 k2 a C3 k3 b t' s' D2 l2 a' D3 l3 b' _ (hAr1.below hb3) hAr3 hS hS'
     rw [hRq.out] at q
     with_reducible refine q.mono ?_
     clear q
     rintro e V4 ⟨W2, v2, W3, v3, rfl, hRW, hb4⟩
     refine ⟨_, rfl, ?_⟩
     have hB4 := below_step hB3 hb4
     have hX4 := blk_below hX3 hb4
     refine hK.out _ _ (mhSS _ hB4) (fun hHeld => ?_)
     clear hK K
     refine nm ?_
     refine pu 5 27 ?_
     refine pu 6 33 ?_
     refine pu 7 34 ?_
     exact norm_ (by simp only [putAll, Act.put, List.setIfInBounds_toArray, List.set_cons_zero, List.set_cons_succ]) (hCont (C2, k2, C3, k3, D2, l2, D3, l3, W2, v2, W3, v3, w3.drew.heap.size) _ ⟨rel_lower hRW (Below.size hB3), hX4, hB4, Below.size mhB0⟩)
   rintro ⟨C2, k2, C3, k3, D2, l2, D3, l3, W2, v2, W3, v3, gW⟩ W ⟨hRW, bX, hBW, hle⟩
   dsimp only at hRW bX hle ⊢
   refine norm_ (a' := ?_) ?_ ?_
   rotate_left
   ·simp only [putAll, Act.put, List.setIfInBounds_toArray, List.set_cons_zero, List.set_cons_succ, i64_w, i32_w]
    rfl
   obtain ⟨e0, e1, e2, e3⟩ := box bX
   obtain ⟨f0, f1, f2, f3⟩ := box_open bX
   refine la 9 (fun K hK => ?_)
   refine sk ((put4 W gW RR.t RR.s W2 RR.a.length v2 W3 RR.b.length v3)) ?_
   refine hK.out _ _ ?_
   clear hK K e0 e1 e2 e3 f0 f1 f2 f3
   refine pu 10 7 ?_
   refine dn ?_
   have mBx : Box (put4 W gW RR.t RR.s W2 RR.a.length v2 W3 RR.b.length v3) gW RR.t RR.s W2 RR.a.length v2 W3 RR.b.length v3 := put_box bX
   have mRl := put_rel (t := RR.t) (s := RR.s) (A2 := W2) (n2 := RR.a.length) (c2 := v2) (A3 := W3) (n3 := RR.b.length) (c3 := v3) hRW bX
   have mBl : Below w3.heap.size w3 (put4 W gW RR.t RR.s W2 RR.a.length v2 W3 RR.b.length v3) := put_below hBW hle
   have mle := hle
   clear bX hRW hBW hle mhSS mhB0
   generalize (put4 W gW RR.t RR.s W2 RR.a.length v2 W3 RR.b.length v3) = w8 at mBx mRl mBl ⊢
   have hB8 := below_step hB3 mBl
   have hP8 := blk_below hP3 mBl
   have hQ8 := blk_below hQ3 mBl
   clear mBl
   have p8_0 : w8.cell? ⟨w.heap.size, 0, none⟩ = some (.int .i64 t) := (blk_cell hP8 0).trans rfl
   have p8_1 : w8.cell? ⟨w.heap.size, 1, none⟩ = some (.int .i64 s) := (blk_cell hP8 1).trans rfl
   have p8_2 : w8.cell? ⟨w.heap.size, 2, none⟩ = some (.slice A2 a.length c2) := (blk_cell hP8 2).trans rfl
   have p8_3 : w8.cell? ⟨w.heap.size, 3, none⟩ = some (.slice A3 b.length c3) := (blk_cell hP8 3).trans rfl
   go_wp2_with (first
    | (go_at_call 8; (with_reducible refine (laws_toRelation.calls kt t s A2 c2 a A3 c3 b _ _ _ _ w8 (hA.below hB8).r2 hA.l2 (hA.below hB8).r3 hA.l3 htr.out).mono ?_); go_loud (
      rintro e w9 ⟨q2, q3, rfl, r2, r3, hb9⟩
      obtain ⟨X2, x2, e2⟩ := Kd.R_slice r2
      subst e2
      obtain ⟨X3, x3, e3⟩ := Kd.S_slice r3
      subst e3
      have hRX : Rel w9 w8.heap.size (fun _ => True) X2 x2 a X3 x3 b := ⟨r2, r3⟩
      have hb9a : Below w9.heap.size w9 (w9.alloc (.cells #[.int .i64 t, .int .i64 s, .slice X2 a.length x2, .slice X3 b.length x3] 27)) := below_alloc (Below.refl _ _) _
      have hX9 := blk_new w9 (.cells #[.int .i64 t, .int .i64 s, .slice X2 a.length x2, .slice X3 b.length x3] 27)
      have hB9 := below_step (below_step hB8 hb9) hb9a
      have hQ9 := blk_below (blk_below hQ8 hb9) hb9a
      clear r2 r3
      have q9_0 : (w9.alloc (.cells #[.int .i64 t, .int .i64 s, .slice X2 a.length x2, .slice X3 b.length x3] 27)).cell? ⟨w.heap.size + 1, 0, none⟩ = some (.int .i64 t') := (blk_cell hQ9 0).trans rfl
      have q9_1 : (w9.alloc (.cells #[.int .i64 t, .int .i64 s, .slice X2 a.length x2, .slice X3 b.length x3] 27)).cell? ⟨w.heap.size + 1, 1, none⟩ = some (.int .i64 s') := (blk_cell hQ9 1).trans rfl
      have q9_2 : (w9.alloc (.cells #[.int .i64 t, .int .i64 s, .slice X2 a.length x2, .slice X3 b.length x3] 27)).cell? ⟨w.heap.size + 1, 2, none⟩ = some (.slice B2 a'.length d2) := (blk_cell hQ9 2).trans rfl
      have q9_3 : (w9.alloc (.cells #[.int .i64 t, .int .i64 s, .slice X2 a.length x2, .slice X3 b.length x3] 27)).cell? ⟨w.heap.size + 1, 3, none⟩ = some (.slice B3 b'.length d3) := (blk_cell hQ9 3).trans rfl))
    | (go_at_call 8; (with_reducible refine (laws_toRelation.calls kt2 t' s' B2 d2 a' B3 d3 b' _ _ _ _ (w9.alloc (.cells #[.int .i64 t, .int .i64 s, .slice X2 a.length x2, .slice X3 b.length x3] 27)) (hB.below hB9).r2 hB.l2 (hB.below hB9).r3 hB.l3 htr2.out).mono ?_); go_loud (
      rintro e w10 ⟨q2, q3, rfl, r2, r3, hb10⟩
      obtain ⟨Y2, y2, e2⟩ := Kd.R_slice r2
      subst e2
      obtain ⟨Y3, y3, e3⟩ := Kd.S_slice r3
      subst e3
      have hRY : Rel w10 (w9.alloc (.cells #[.int .i64 t, .int .i64 s, .slice X2 a.length x2, .slice X3 b.length x3] 27)).heap.size (fun _ => True) Y2 y2 a' Y3 y3 b' := ⟨r2, r3⟩
      have hb10a : Below w10.heap.size w10 (w10.alloc (.cells #[.int .i64 t', .int .i64 s', .slice Y2 a'.length y2, .slice Y3 b'.length y3] 27)) := below_alloc (Below.refl _ _) _
      have hY10 := blk_new w10 (.cells #[.int .i64 t', .int .i64 s', .slice Y2 a'.length y2, .slice Y3 b'.length y3] 27)
      have hX10 := blk_below (blk_below hX9 hb10) hb10a
      have hB10 := below_step (below_step hB9 hb10) hb10a
      clear r2 r3
      have x10_0 : (w10.alloc (.cells #[.int .i64 t', .int .i64 s', .slice Y2 a'.length y2, .slice Y3 b'.length y3] 27)).cell? ⟨w9.heap.size, 0, none⟩ = some (.int .i64 t) := (blk_cell hX10 0).trans rfl
      have x10_1 : (w10.alloc (.cells #[.int .i64 t', .int .i64 s', .slice Y2 a'.length y2, .slice Y3 b'.length y3] 27)).cell? ⟨w9.heap.size, 1, none⟩ = some (.int .i64 s) := (blk_cell hX10 1).trans rfl
      have x10_2 : (w10.alloc (.cells #[.int .i64 t', .int .i64 s', .slice Y2 a'.length y2, .slice Y3 b'.length y3] 27)).cell? ⟨w9.heap.size, 2, none⟩ = some (.slice X2 a.length x2) := (blk_cell hX10 2).trans rfl
      have x10_3 : (w10.alloc (.cells #[.int .i64 t', .int .i64 s', .slice Y2 a'.length y2, .slice Y3 b'.length y3] 27)).cell? ⟨w9.heap.size, 3, none⟩ = some (.slice X3 b.length x3) := (blk_cell hX10 3).trans rfl))
    | (go_at_call 9; (
      have q := Rsf.restI t s X2 x2 a X3 x3 b t' s' Y2 y2 a' Y3 y3 b' (w10.alloc (.cells #[.int .i64 t', .int .i64 s', .slice Y2 a'.length y2, .slice Y3 b'.length y3] 27)) ((((rel_arg hRX).below hb9a).below hb10).below hb10a) ((rel_arg hRY).below hb10a) hS hS' (glob_below hG2.out hB10)
      rw [hRq.out] at q
      with_reducible refine q.mono ?_
      clear q); go_loud (
      rintro e w11 ⟨G2, z2, G3, z3, rfl, hRG, hb11⟩
      have hb11a : Below w11.heap.size w11 (w11.alloc (.cells #[.int .i64 RR.t, .int .i64 RR.s, .slice G2 RR.a.length z2, .slice G3 RR.b.length z3] 27)) := below_alloc (Below.refl _ _) _
      have hG11 := blk_new w11 (.cells #[.int .i64 RR.t, .int .i64 RR.s, .slice G2 RR.a.length z2, .slice G3 RR.b.length z3] 27)
      have s8 : w8.heap.size ≤ w9.heap.size := Below.size hb9
      have s9 : w9.heap.size + 1 ≤ w10.heap.size := by have := hb10.size; simpa using this
      have s10 : w10.heap.size + 1 ≤ w11.heap.size := by have := hb11.size; simpa using this
      have k8 : Below w8.heap.size w8 (w11.alloc (.cells #[.int .i64 RR.t, .int .i64 RR.s, .slice G2 RR.a.length z2, .slice G3 RR.b.length z3] 27)) := below_step (below_step (below_step (below_step (below_step hb9 hb9a) hb10) hb10a) hb11) hb11a
      have k9 : Below w9.heap.size w9 (w11.alloc (.cells #[.int .i64 RR.t, .int .i64 RR.s, .slice G2 RR.a.length z2, .slice G3 RR.b.length z3] 27)) := below_step (below_step (below_step (below_step hb9a hb10) hb10a) hb11) hb11a
      have k10 : Below w10.heap.size w10 (w11.alloc (.cells #[.int .i64 RR.t, .int .i64 RR.s, .slice G2 RR.a.length z2, .slice G3 RR.b.length z3] 27)) := below_step (below_step hb10a hb11) hb11a
      have hst11 : St2 w #[.int .i64 t, .int .i64 s, .slice A2 a.length c2, .slice A3 b.length c3] #[.int .i64 t', .int .i64 s', .slice B2 a'.length d2, .slice B3 b'.length d3] gW w8.heap.size w9.heap.size w10.heap.size w11.heap.size ⟨RR.t, RR.s, W2, RR.a.length, v2, W3, RR.b.length, v3⟩ ⟨t, s, X2, a.length, x2, X3, b.length, x3⟩ ⟨t', s', Y2, a'.length, y2, Y3, b'.length, y3⟩ ⟨RR.t, RR.s, G2, RR.a.length, z2, G3, RR.b.length, z3⟩ RR.a RR.b a b a' b' RR.a RR.b (w11.alloc (.cells #[.int .i64 RR.t, .int .i64 RR.s, .slice G2 RR.a.length z2, .slice G3 RR.b.length z3] 27)) :=
       { bel := below_step hB8 k8, p := blk_below hP8 k8, q := blk_below hQ8 k8, pw := blk_below mBx k8, px := blk_below (blk_below (blk_below hX10 hb11) hb11a) (Below.refl _ _), py := blk_below (blk_below hY10 hb11) hb11a, pg := hG11, l0 := (by have := hlw3.out; omega), lW := blk_lt mBx, lX := s8, lY := (by omega), lG := (by omega), nX2 := rfl, nX3 := rfl, nY2 := rfl, nY3 := rfl, nG2 := rfl, nG3 := rfl, rW := rel_old mRl k8 hlw3.out, rX := rel_old hRX k9 (Nat.le_refl _), rY := rel_old hRY k10 (by simp), rG := rel_old hRG hb11a (by simp) }
      clear hRX hRY hRG mRl
      have v11_0 : (w11.alloc (.cells #[.int .i64 RR.t, .int .i64 RR.s, .slice G2 RR.a.length z2, .slice G3 RR.b.length z3] 27)).cell? ⟨gW, 0, none⟩ = some (.int .i64 RR.t) := (blk_cell hst11.pw 0).trans rfl
      have v11_1 : (w11.alloc (.cells #[.int .i64 RR.t, .int .i64 RR.s, .slice G2 RR.a.length z2, .slice G3 RR.b.length z3] 27)).cell? ⟨gW, 1, none⟩ = some (.int .i64 RR.s) := (blk_cell hst11.pw 1).trans rfl
      have v11_2 : (w11.alloc (.cells #[.int .i64 RR.t, .int .i64 RR.s, .slice G2 RR.a.length z2, .slice G3 RR.b.length z3] 27)).cell? ⟨gW, 2, none⟩ = some (.slice W2 RR.a.length v2) := (blk_cell hst11.pw 2).trans rfl
      have v11_3 : (w11.alloc (.cells #[.int .i64 RR.t, .int .i64 RR.s, .slice G2 RR.a.length z2, .slice G3 RR.b.length z3] 27)).cell? ⟨gW, 3, none⟩ = some (.slice W3 RR.b.length v3) := (blk_cell hst11.pw 3).trans rfl))
    | (go_at_call 10; (with_reducible refine (eq_same RR.t RR.s G2 z2 RR.a G3 z3 RR.b W2 v2 W3 v3 (w11.alloc (.cells #[.int .i64 RR.t, .int .i64 RR.s, .slice G2 RR.a.length z2, .slice G3 RR.b.length z3] 27)) (rel_arg hst11.rG) (rel_arg hst11.rW) hF.out.small).mono ?_); go_loud (
      rintro e w12 ⟨rfl, hb12⟩
      have hst12 := hst11.below hb12)))
   clear hst11
   obtain ⟨eW, heW⟩ : ∃ g, w8.heap.size = g := ⟨_, rfl⟩
   obtain ⟨gX, hgX⟩ : ∃ g, w9.heap.size = g := ⟨_, rfl⟩
   obtain ⟨gY, hgY⟩ : ∃ g, w10.heap.size = g := ⟨_, rfl⟩
   obtain ⟨gG, hgG⟩ : ∃ g, w11.heap.size = g := ⟨_, rfl⟩
   rw [heW, hgX, hgY, hgG] at hst12
   simp only [hgX, hgY, hgG]
   clear heW hgX hgY hgG hB8 hP8 hQ8 p8_0 p8_1 p8_2 p8_3 hb9 hb9a hX9 hB9 hQ9 q9_0 q9_1 q9_2 q9_3 hb10 hb10a hY10 hX10 hB10 x10_0 x10_1 x10_2 x10_3 hb11 hb11a hG11 s8 s9 s10 k8 k9 k10 v11_0 v11_1 v11_2 v11_3 hb12 mBx mle
   have hst12d := hst12.below (below_drew1 (Below.refl _ _))
   refine st 5 (fun w' => w'.cell? ⟨gX, 0, none⟩ = some (.int .i64 t) ∧ w'.cell? ⟨gX, 1, none⟩ = some (.int .i64 s) ∧ w'.cell? ⟨gX, 2, none⟩ = some (.slice X2 a.length x2) ∧ w'.cell? ⟨gX, 3, none⟩ = some (.slice X3 b.length x3) ∧ w'.cell? ⟨w.heap.size, 0, none⟩ = some (.int .i64 t) ∧ w'.cell? ⟨w.heap.size, 1, none⟩ = some (.int .i64 s) ∧ w'.cell? ⟨w.heap.size, 2, none⟩ = some (.slice A2 a.length c2) ∧ w'.cell? ⟨w.heap.size, 3, none⟩ = some (.slice A3 b.length c3)) [] (⟨(blk_cell hst12d.px 0).trans rfl, (blk_cell hst12d.px 1).trans rfl, (blk_cell hst12d.px 2).trans rfl, (blk_cell hst12d.px 3).trans rfl, (blk_cell hst12d.p 0).trans rfl, (blk_cell hst12d.p 1).trans rfl, (blk_cell hst12d.p 2).trans rfl, (blk_cell hst12d.p 3).trans rfl⟩) (fun hHeld => ?_)
   refine tk 0 54 hHeld ?_
   refine tk 1 55 hHeld ?_
   refine on 2 56 (fun K hK => ?_)
   refine goes_ Tryd.func8 (by kernel_rfl) rfl #[.agg #[.int .i64 t, .int .i64 s, .slice A2 a.length c2, .slice A3 b.length c3]] (by rfl) rfl rfl (by (try simp only [List.map_toArray, List.map_cons, List.map_nil]); first | done | rfl) ?_
   with_reducible refine (laws_toRelation.calls kt t s A2 c2 a A3 c3 b _ _ _ _ _ (hA.below hst12d.bel).r2 hA.l2 (hA.below hst12d.bel).r3 hA.l3 htr.out).mono ?_
   rintro e w14a ⟨q2, q3, rfl, r2, r3, hba⟩
   obtain ⟨K2, k2, e2⟩ := Kd.R_slice r2
   subst e2
   obtain ⟨K3, k3, e3⟩ := Kd.S_slice r3
   subst e3
   refine ⟨_, rfl, ?_⟩
   have hst12a := hst12d.below hba
   refine hK.out _ _ ⟨(blk_cell hst12a.px 0).trans rfl, (blk_cell hst12a.px 1).trans rfl, (blk_cell hst12a.px 2).trans rfl, (blk_cell hst12a.px 3).trans rfl, (blk_cell hst12a.p 0).trans rfl, (blk_cell hst12a.p 1).trans rfl, (blk_cell hst12a.p 2).trans rfl, (blk_cell hst12a.p 3).trans rfl⟩ (fun hHeld => ?_)
   clear hK K
   refine nm ?_
   refine on 3 57 (fun K hK => ?_)
   refine goes_ Tryd.func10 (by kernel_rfl) rfl #[.agg #[.int .i64 t, .int .i64 s, .slice X2 a.length x2, .slice X3 b.length x3], .agg #[.int .i64 t, .int .i64 s, .slice K2 a.length k2, .slice K3 b.length k3]] (by rfl) rfl rfl (by (try simp only [List.map_toArray, List.map_cons, List.map_nil]); first | done | rfl) ?_
   with_reducible refine (eq_same t s X2 x2 a X3 x3 b K2 k2 K3 k3 _ (rel_arg hst12a.rX) (rel_arg ⟨r2, r3⟩) hS).mono ?_
   rintro e w14 ⟨rfl, hbb⟩
   refine ⟨_, rfl, ?_⟩
   have hw14 := hst12a.below hbb
   clear r2 r3
   refine hK.out _ _ ⟨(blk_cell hw14.px 0).trans rfl, (blk_cell hw14.px 1).trans rfl, (blk_cell hw14.px 2).trans rfl, (blk_cell hw14.px 3).trans rfl, (blk_cell hw14.p 0).trans rfl, (blk_cell hw14.p 1).trans rfl, (blk_cell hw14.p 2).trans rfl, (blk_cell hw14.p 3).trans rfl⟩ (fun hHeld => ?_)
   clear hK K
   refine nm ?_
   refine pu 4 58 ?_
   refine dn ?_
   go_wp2_with fail
   have hw14d := hw14.below (below_drew1 (Below.refl _ _))
   refine st 5 (fun w' => w'.cell? ⟨gY, 0, none⟩ = some (.int .i64 t') ∧ w'.cell? ⟨gY, 1, none⟩ = some (.int .i64 s') ∧ w'.cell? ⟨gY, 2, none⟩ = some (.slice Y2 a'.length y2) ∧ w'.cell? ⟨gY, 3, none⟩ = some (.slice Y3 b'.length y3) ∧ w'.cell? ⟨w.heap.size + 1, 0, none⟩ = some (.int .i64 t') ∧ w'.cell? ⟨w.heap.size + 1, 1, none⟩ = some (.int .i64 s') ∧ w'.cell? ⟨w.heap.size + 1, 2, none⟩ = some (.slice B2 a'.length d2) ∧ w'.cell? ⟨w.heap.size + 1, 3, none⟩ = some (.slice B3 b'.length d3)) [] (⟨(blk_cell hw14d.py 0).trans rfl, (blk_cell hw14d.py 1).trans rfl, (blk_cell hw14d.py 2).trans rfl, (blk_cell hw14d.py 3).trans rfl, (blk_cell hw14d.q 0).trans rfl, (blk_cell hw14d.q 1).trans rfl, (blk_cell hw14d.q 2).trans rfl, (blk_cell hw14d.q 3).trans rfl⟩) (fun hHeld => ?_)
   refine tk 0 59 hHeld ?_
   refine tk 1 60 hHeld ?_
   refine on 2 61 (fun K hK => ?_)
   refine goes_ Tryd.func8 (by kernel_rfl) rfl #[.agg #[.int .i64 t', .int .i64 s', .slice B2 a'.length d2, .slice B3 b'.length d3]] (by rfl) rfl rfl (by (try simp only [List.map_toArray, List.map_cons, List.map_nil]); first | done | rfl) ?_
   with_reducible refine (laws_toRelation.calls kt2 t' s' B2 d2 a' B3 d3 b' _ _ _ _ _ (hB.below hw14d.bel).r2 hB.l2 (hB.below hw14d.bel).r3 hB.l3 htr2.out).mono ?_
   rintro e w16a ⟨q2, q3, rfl, r2, r3, hba⟩
   obtain ⟨K2, k2, e2⟩ := Kd.R_slice r2
   subst e2
   obtain ⟨K3, k3, e3⟩ := Kd.S_slice r3
   subst e3
   refine ⟨_, rfl, ?_⟩
   have hw14a := hw14d.below hba
   refine hK.out _ _ ⟨(blk_cell hw14a.py 0).trans rfl, (blk_cell hw14a.py 1).trans rfl, (blk_cell hw14a.py 2).trans rfl, (blk_cell hw14a.py 3).trans rfl, (blk_cell hw14a.q 0).trans rfl, (blk_cell hw14a.q 1).trans rfl, (blk_cell hw14a.q 2).trans rfl, (blk_cell hw14a.q 3).trans rfl⟩ (fun hHeld => ?_)
   clear hK K
   refine nm ?_
   refine on 3 62 (fun K hK => ?_)
   refine goes_ Tryd.func10 (by kernel_rfl) rfl #[.agg #[.int .i64 t', .int .i64 s', .slice Y2 a'.length y2, .slice Y3 b'.length y3], .agg #[.int .i64 t', .int .i64 s', .slice K2 a'.length k2, .slice K3 b'.length k3]] (by rfl) rfl rfl (by (try simp only [List.map_toArray, List.map_cons, List.map_nil]); first | done | rfl) ?_
   with_reducible refine (eq_same t' s' Y2 y2 a' Y3 y3 b' K2 k2 K3 k3 _ (rel_arg hw14a.rY) (rel_arg ⟨r2, r3⟩) hS').mono ?_
   rintro e w16 ⟨rfl, hbb⟩
   refine ⟨_, rfl, ?_⟩
   have hw16 := hw14a.below hbb
   clear r2 r3
   refine hK.out _ _ ⟨(blk_cell hw16.py 0).trans rfl, (blk_cell hw16.py 1).trans rfl, (blk_cell hw16.py 2).trans rfl, (blk_cell hw16.py 3).trans rfl, (blk_cell hw16.q 0).trans rfl, (blk_cell hw16.q 1).trans rfl, (blk_cell hw16.q 2).trans rfl, (blk_cell hw16.q 3).trans rfl⟩ (fun hHeld => ?_)
   clear hK K
   refine nm ?_
   refine pu 4 63 ?_
   refine dn ?_
   have x16_0 : w16.cell? ⟨gX, 0, none⟩ = some (.int .i64 t) := (blk_cell hw16.px 0).trans rfl
   have x16_1 : w16.cell? ⟨gX, 1, none⟩ = some (.int .i64 s) := (blk_cell hw16.px 1).trans rfl
   have x16_2 : w16.cell? ⟨gX, 2, none⟩ = some (.slice X2 a.length x2) := (blk_cell hw16.px 2).trans rfl
   have x16_3 : w16.cell? ⟨gX, 3, none⟩ = some (.slice X3 b.length x3) := (blk_cell hw16.px 3).trans rfl
   go_wp2_with (first
    | (go_at_call 11; (with_reducible refine (mark1 t s X2 x2 a X3 x3 b w16 eW (fun k => k < gX) hw16.leX hw16.rX (by have := hS.lb; omega) hXl.out hTXq.out).mono ?_); go_loud (
      rintro e w17 ⟨rfl, hR17, hK17⟩
      have hst17 := hw16.markX hK17 hR17 (mB_length _ _) (mR_length _ _)
      clear hR17 hK17
      have y17_0 : w17.cell? ⟨gY, 0, none⟩ = some (.int .i64 t') := (blk_cell hst17.py 0).trans rfl
      have y17_1 : w17.cell? ⟨gY, 1, none⟩ = some (.int .i64 s') := (blk_cell hst17.py 1).trans rfl
      have y17_2 : w17.cell? ⟨gY, 2, none⟩ = some (.slice Y2 a'.length y2) := (blk_cell hst17.py 2).trans rfl
      have y17_3 : w17.cell? ⟨gY, 3, none⟩ = some (.slice Y3 b'.length y3) := (blk_cell hst17.py 3).trans rfl))
    | (go_at_call 11; (with_reducible refine (mark2 TX t' s' Y2 y2 a' Y3 y3 b' w17 (gX + 1) (fun k => k < gY) hst17.leY hst17.rY (by have := hS'.lb; omega) hYl.out hTYq.out).mono ?_); go_loud (
      rintro e w18 ⟨rfl, hR18, hK18⟩
      have hst18 := hst17.markY hK18 hR18 (mB_length _ _) (mR_length _ _)
      clear hR18 hK18
      have g18_0 : w18.cell? ⟨gG, 0, none⟩ = some (.int .i64 RR.t) := (blk_cell hst18.pg 0).trans rfl
      have g18_1 : w18.cell? ⟨gG, 1, none⟩ = some (.int .i64 RR.s) := (blk_cell hst18.pg 1).trans rfl
      have g18_2 : w18.cell? ⟨gG, 2, none⟩ = some (.slice G2 RR.a.length z2) := (blk_cell hst18.pg 2).trans rfl
      have g18_3 : w18.cell? ⟨gG, 3, none⟩ = some (.slice G3 RR.b.length z3) := (blk_cell hst18.pg 3).trans rfl
      have v18_0 : w18.cell? ⟨gW, 0, none⟩ = some (.int .i64 RR.t) := (blk_cell hst18.pw 0).trans rfl
      have v18_1 : w18.cell? ⟨gW, 1, none⟩ = some (.int .i64 RR.s) := (blk_cell hst18.pw 1).trans rfl
      have v18_2 : w18.cell? ⟨gW, 2, none⟩ = some (.slice W2 RR.a.length v2) := (blk_cell hst18.pw 2).trans rfl
      have v18_3 : w18.cell? ⟨gW, 3, none⟩ = some (.slice W3 RR.b.length v3) := (blk_cell hst18.pw 3).trans rfl))
    | (go_at_call 10; (with_reducible refine (eq_same RR.t RR.s G2 z2 RR.a G3 z3 RR.b W2 v2 W3 v3 w18 (rel_arg hst18.rG) (rel_arg hst18.rW) hF.out.small).mono ?_); go_loud (
      rintro e w19 ⟨rfl, hb19⟩
      have hst19 := hst18.below hb19
      have g19_0 : w19.cell? ⟨gG, 0, none⟩ = some (.int .i64 RR.t) := (blk_cell hst19.pg 0).trans rfl
      have g19_1 : w19.cell? ⟨gG, 1, none⟩ = some (.int .i64 RR.s) := (blk_cell hst19.pg 1).trans rfl
      have g19_2 : w19.cell? ⟨gG, 2, none⟩ = some (.slice G2 RR.a.length z2) := (blk_cell hst19.pg 2).trans rfl
      have g19_3 : w19.cell? ⟨gG, 3, none⟩ = some (.slice G3 RR.b.length z3) := (blk_cell hst19.pg 3).trans rfl))
    | (go_at_call 11; (with_reducible refine (mark1 RR.t RR.s G2 z2 RR.a G3 z3 RR.b w19 (gY + 1) (fun k => k < gG) hst19.leG hst19.rG (by have := hF.out.b; omega) hGl.out hTGq.out).mono ?_); go_loud (
      rintro e w20 ⟨rfl, hR20, hK20⟩
      have hst20 := hst19.markG hK20 hR20 (mB_length _ _) (mR_length _ _)
      clear hR20 hK20
      have g20_0 : w20.cell? ⟨gG, 0, none⟩ = some (.int .i64 RR.t) := (blk_cell hst20.pg 0).trans rfl
      have g20_1 : w20.cell? ⟨gG, 1, none⟩ = some (.int .i64 RR.s) := (blk_cell hst20.pg 1).trans rfl
      have g20_2 : w20.cell? ⟨gG, 2, none⟩ = some (.slice G2 RR.a.length z2) := (blk_cell hst20.pg 2).trans rfl
      have g20_3 : w20.cell? ⟨gG, 3, none⟩ = some (.slice G3 RR.b.length z3) := (blk_cell hst20.pg 3).trans rfl))
    | (go_at_call 12; (with_reducible refine (held1 RR.a.length RR.t RR.s G2 z2 G3 z3 RR.b w20 (hst20.heldB) (hst20.heldR) (by have := hF.out.b; omega) hGl.out hTGq.out).mono ?_); go_loud (
      rintro e w21 ⟨rfl, hb21⟩
      have hst21 := hst20.below hb21)))
   clear x16_0 x16_1 x16_2 x16_3 y17_0 y17_1 y17_2 y17_3 g18_0 g18_1 g18_2 g18_3 v18_0 v18_1 v18_2 v18_3 g19_0 g19_1 g19_2 g19_3 g20_0 g20_1 g20_2 g20_3
   have hP21 := hst21.p
   have hQ21 := hst21.q
   have hB21 := hst21.bel
   have hhSS : ∀ W', Below w21.heap.size w21 W' → (fun w' => w'.cell? ⟨w.heap.size, 0, none⟩ = some (.int .i64 t) ∧ w'.cell? ⟨w.heap.size, 1, none⟩ = some (.int .i64 s) ∧ w'.cell? ⟨w.heap.size, 2, none⟩ = some (.slice A2 a.length c2) ∧ w'.cell? ⟨w.heap.size, 3, none⟩ = some (.slice A3 b.length c3) ∧ w'.cell? ⟨w.heap.size + 1, 0, none⟩ = some (.int .i64 t') ∧ w'.cell? ⟨w.heap.size + 1, 1, none⟩ = some (.int .i64 s') ∧ w'.cell? ⟨w.heap.size + 1, 2, none⟩ = some (.slice B2 a'.length d2) ∧ w'.cell? ⟨w.heap.size + 1, 3, none⟩ = some (.slice B3 b'.length d3)) W' := fun W' hb => ⟨(blk_cell (blk_below hP21 hb) 0).trans rfl, (blk_cell (blk_below hP21 hb) 1).trans rfl, (blk_cell (blk_below hP21 hb) 2).trans rfl, (blk_cell (blk_below hP21 hb) 3).trans rfl, (blk_cell (blk_below hQ21 hb) 0).trans rfl, (blk_cell (blk_below hQ21 hb) 1).trans rfl, (blk_cell (blk_below hQ21 hb) 2).trans rfl, (blk_cell (blk_below hQ21 hb) 3).trans rfl⟩
   have hhB0 : Below w21.heap.size w21 w21.drew := below_drew1 (Below.refl _ _)
   refine st 11 (fun w' => w'.cell? ⟨w.heap.size, 0, none⟩ = some (.int .i64 t) ∧ w'.cell? ⟨w.heap.size, 1, none⟩ = some (.int .i64 s) ∧ w'.cell? ⟨w.heap.size, 2, none⟩ = some (.slice A2 a.length c2) ∧ w'.cell? ⟨w.heap.size, 3, none⟩ = some (.slice A3 b.length c3) ∧ w'.cell? ⟨w.heap.size + 1, 0, none⟩ = some (.int .i64 t') ∧ w'.cell? ⟨w.heap.size + 1, 1, none⟩ = some (.int .i64 s') ∧ w'.cell? ⟨w.heap.size + 1, 2, none⟩ = some (.slice B2 a'.length d2) ∧ w'.cell? ⟨w.heap.size + 1, 3, none⟩ = some (.slice B3 b'.length d3)) [9] (hhSS _ hhB0) (fun hHeld => ?_)
   refine tk 0 95 hHeld ?_
   refine tk 2 97 hHeld ?_
   refine join_ (σ := Option Addr × Nat × Option Addr × Nat × Option Addr × Nat × Option Addr × Nat × Option Addr × Nat × Option Addr × Nat × Nat) 2 #[true, true, true, true, true, true, true, true, true, false, false] (fun z => [(96, .agg #[.int .i64 t, .int .i64 s, .slice z.1 a.length z.2.1, .slice z.2.2.1 b.length z.2.2.2.1]), (98, .agg #[.int .i64 t', .int .i64 s', .slice z.2.2.2.2.1 a'.length z.2.2.2.2.2.1, .slice z.2.2.2.2.2.2.1 b'.length z.2.2.2.2.2.2.2.1]), (99, .tuple #[.agg #[.int .i64 RR.t, .int .i64 RR.s, .slice z.2.2.2.2.2.2.2.2.1 RR.a.length z.2.2.2.2.2.2.2.2.2.1, .slice z.2.2.2.2.2.2.2.2.2.2.1 RR.b.length z.2.2.2.2.2.2.2.2.2.2.2.1], .int .i64 RR.c]), (94, .tuple #[.agg #[.int .i64 RR.t, .int .i64 RR.s, .slice z.2.2.2.2.2.2.2.2.1 RR.a.length z.2.2.2.2.2.2.2.2.2.1, .slice z.2.2.2.2.2.2.2.2.2.2.1 RR.b.length z.2.2.2.2.2.2.2.2.2.2.2.1], .int .i64 RR.c]), (100, .agg #[.int .i64 RR.t, .int .i64 RR.s, .slice z.2.2.2.2.2.2.2.2.1 RR.a.length z.2.2.2.2.2.2.2.2.2.1, .slice z.2.2.2.2.2.2.2.2.2.2.1 RR.b.length z.2.2.2.2.2.2.2.2.2.2.2.1]), (101, .int .i64 RR.c), (15, .pointer (some ⟨z.2.2.2.2.2.2.2.2.2.2.2.2, 0, none⟩))])
    (fun z w' => Rel w' w21.heap.size (fun _ => True) z.2.2.2.2.2.2.2.2.1 z.2.2.2.2.2.2.2.2.2.1 RR.a z.2.2.2.2.2.2.2.2.2.2.1 z.2.2.2.2.2.2.2.2.2.2.2.1 RR.b ∧ ZBox w' (z.2.2.2.2.2.2.2.2.2.2.2.2) ∧ Below w21.heap.size w21 w' ∧ w21.heap.size ≤ z.2.2.2.2.2.2.2.2.2.2.2.2) ?_ ?_
   rotate_left
   ·intro hCont
    refine two_ (i := 1) (j := 8) (Ni := some 96) (Nj := some 15) #[true, true, true, false, false, false, false, false, false, false, false] #[true, false, true, false, false, false, false, false, true, false, false] rfl rfl rfl rfl (by kernel_rfl) (by decide) (by decide) (fun K hK => ?_) (fun K hK => ?_)
    ·skip
     refine goes_ Tryd.func8 (by kernel_rfl) rfl #[.agg #[.int .i64 t, .int .i64 s, .slice A2 a.length c2, .slice A3 b.length c3]] (by rfl) rfl rfl (by (try simp only [List.map_toArray, List.map_cons, List.map_nil]); first | done | rfl) ?_
     with_reducible refine (laws_toRelation.calls kt t s A2 c2 a A3 c3 b _ _ _ _ _ (hA.below (below_step hB21 hhB0)).r2 hA.l2 (hA.below (below_step hB21 hhB0)).r3 hA.l3 htr.out).mono ?_
     rintro e V1 ⟨q2, q3, rfl, r2, r3, hb1⟩
     obtain ⟨C2, k2, e2⟩ := Kd.R_slice r2
     subst e2
     obtain ⟨C3, k3, e3⟩ := Kd.S_slice r3
     subst e3
     have hAr1 : Arg V1 C2 k2 a C3 k3 b := rel_arg ⟨r2, r3⟩
     clear r2 r3
     refine ⟨_, rfl, ?_⟩
     have hB1 := below_step hhB0 hb1
     refine hK.out _ _ (hhSS _ hB1) (fun hHeld => ?_)
     clear hK K
     refine nm ?_
     refine two_ (i := 3) (j := 8) (Ni := some 98) (Nj := some 15) #[true, true, true, true, false, false, false, false, false, false, false] #[true, true, true, false, false, false, false, false, true, false, false] rfl rfl rfl rfl (by kernel_rfl) (by decide) (by decide) (fun K hK => ?_) (fun K hK => ?_)
     ·skip
      refine goes_ Tryd.func8 (by kernel_rfl) rfl #[.agg #[.int .i64 t', .int .i64 s', .slice B2 a'.length d2, .slice B3 b'.length d3]] (by rfl) rfl rfl (by (try simp only [List.map_toArray, List.map_cons, List.map_nil]); first | done | rfl) ?_
      with_reducible refine (laws_toRelation.calls kt2 t' s' B2 d2 a' B3 d3 b' _ _ _ _ _ (hB.below (below_step hB21 hB1)).r2 hB.l2 (hB.below (below_step hB21 hB1)).r3 hB.l3 htr2.out).mono ?_
      rintro e V2 ⟨q2, q3, rfl, r2, r3, hb2⟩
      obtain ⟨D2, l2, e2⟩ := Kd.R_slice r2
      subst e2
      obtain ⟨D3, l3, e3⟩ := Kd.S_slice r3
      subst e3
      have hAr3 : Arg V2 D2 l2 a' D3 l3 b' := rel_arg ⟨r2, r3⟩
      clear r2 r3
      refine ⟨_, rfl, ?_⟩
      have hB2 := below_step hB1 hb2
      refine hK.out _ _ (hhSS _ hB2) (fun hHeld => ?_)
      clear hK K
      refine nm ?_
      refine two_ (i := 4) (j := 8) (Ni := some 99) (Nj := some 15) #[true, true, true, true, true, false, false, false, false, false, false] #[true, true, true, true, false, false, false, false, true, false, false] rfl rfl rfl rfl (by kernel_rfl) (by decide) (by decide) (fun K hK => ?_) (fun K hK => ?_)
      ·skip
       refine goes_ Tryd.func9 (by kernel_rfl) rfl #[.agg #[.int .i64 t, .int .i64 s, .slice C2 a.length k2, .slice C3 b.length k3], .agg #[.int .i64 t', .int .i64 s', .slice D2 a'.length l2, .slice D3 b'.length l3]] (by rfl) rfl rfl (by (try simp only [List.map_toArray, List.map_cons, List.map_nil]); first | done | rfl) ?_
       have q := Rsf.restI t s C2 k2 a C3 k3 b t' s' D2 l2 a' D3 l3 b' _ (hAr1.below hb2) hAr3 hS hS' (glob_below hG2.out (below_step hB21 hB2))
       rw [hRq.out] at q
       with_reducible refine q.mono ?_
       clear q
       rintro e V3 ⟨H2, u2, H3, u3, rfl, hRW, hb3⟩
       refine ⟨_, rfl, ?_⟩
       have hB3 := below_step hB2 hb3
       refine hK.out _ _ (hhSS _ hB3) (fun hHeld => ?_)
       clear hK K
       refine nm ?_
       refine pu 5 94 ?_
       refine pu 6 100 ?_
       refine pu 7 101 ?_
       refine one_ (i := 8) (N := some 15) (zb 11 511) rfl rfl (by kernel_rfl) (by decide) (fun K hK => ?_)
       refine value_ (w1 := (V3.alloc (.cells #[.int .i64 0, .int .i64 0, .slice none 0 0, .slice none 0 0] 27))) (v := .pointer (some ⟨V3.heap.size, 0, none⟩)) (by rfl) rfl (by first | (go_simp; done) | (go_simp; rfl)) ?_
       have hb4 : Below V3.heap.size V3 (V3.alloc (.cells #[.int .i64 0, .int .i64 0, .slice none 0 0, .slice none 0 0] 27)) := below_alloc (Below.refl _ _) _
       have hB4 := below_step hB3 hb4
       have hX4 := blk_new V3 (.cells #[.int .i64 0, .int .i64 0, .slice none 0 0, .slice none 0 0] 27)
       refine hK.out _ _ (hhSS _ hB4) (fun hHeld => ?_)
       clear hK K
       refine nm ?_
       exact norm_ (by simp only [putAll, Act.put, List.setIfInBounds_toArray, List.set_cons_zero, List.set_cons_succ]) (hCont (C2, k2, C3, k3, D2, l2, D3, l3, H2, u2, H3, u3, V3.heap.size) _ ⟨rel_lower (hRW.below hb4) (Below.size hB2), hX4, hB4, Below.size hB3⟩)
      ·skip
       refine value_ (w1 := (V2.alloc (.cells #[.int .i64 0, .int .i64 0, .slice none 0 0, .slice none 0 0] 27))) (v := .pointer (some ⟨V2.heap.size, 0, none⟩)) (by rfl) rfl (by first | (go_simp; done) | (go_simp; rfl)) ?_
       have hb3 : Below V2.heap.size V2 (V2.alloc (.cells #[.int .i64 0, .int .i64 0, .slice none 0 0, .slice none 0 0] 27)) := below_alloc (Below.refl _ _) _
       have hB3 := below_step hB2 hb3
       have hX3 := blk_new V2 (.cells #[.int .i64 0, .int .i64 0, .slice none 0 0, .slice none 0 0] 27)
       refine hK.out _ _ (hhSS _ hB3) (fun hHeld => ?_)
       clear hK K
       refine nm ?_
       refine one_ (i := 4) (N := some 99) (zb 11 287) rfl rfl (by kernel_rfl) (by decide) (fun K hK => ?_)
       refine goes_ Tryd.func9 (by kernel_rfl) rfl #[.agg #[.int .i64 t, .int .i64 s, .slice C2 a.length k2, .slice C3 b.length k3], .agg #[.int .i64 t', .int .i64 s', .slice D2 a'.length l2, .slice D3 b'.length l3]] (by rfl) rfl rfl (by (try simp only [List.map_toArray, List.map_cons, List.map_nil]); first | done | rfl) ?_
       have q := Rsf.restI t s C2 k2 a C3 k3 b t' s' D2 l2 a' D3 l3 b' _ ((hAr1.below hb2).below hb3) (hAr3.below hb3) hS hS' (glob_below hG2.out (below_step hB21 hB3))
       rw [hRq.out] at q
       with_reducible refine q.mono ?_
       clear q
       rintro e V4 ⟨H2, u2, H3, u3, rfl, hRW, hb4⟩
       refine ⟨_, rfl, ?_⟩
       have hB4 := below_step hB3 hb4
       have hX4 := blk_below hX3 hb4
       refine hK.out _ _ (hhSS _ hB4) (fun hHeld => ?_)
       clear hK K
       refine nm ?_
       refine pu 5 94 ?_
       refine pu 6 100 ?_
       refine pu 7 101 ?_
       exact norm_ (by simp only [putAll, Act.put, List.setIfInBounds_toArray, List.set_cons_zero, List.set_cons_succ]) (hCont (C2, k2, C3, k3, D2, l2, D3, l3, H2, u2, H3, u3, V2.heap.size) _ ⟨rel_lower hRW (Below.size hB3), hX4, hB4, Below.size hB2⟩)
     ·skip
      refine value_ (w1 := (V1.alloc (.cells #[.int .i64 0, .int .i64 0, .slice none 0 0, .slice none 0 0] 27))) (v := .pointer (some ⟨V1.heap.size, 0, none⟩)) (by rfl) rfl (by first | (go_simp; done) | (go_simp; rfl)) ?_
      have hb2 : Below V1.heap.size V1 (V1.alloc (.cells #[.int .i64 0, .int .i64 0, .slice none 0 0, .slice none 0 0] 27)) := below_alloc (Below.refl _ _) _
      have hB2 := below_step hB1 hb2
      have hX2 := blk_new V1 (.cells #[.int .i64 0, .int .i64 0, .slice none 0 0, .slice none 0 0] 27)
      refine hK.out _ _ (hhSS _ hB2) (fun hHeld => ?_)
      clear hK K
      refine nm ?_
      refine one_ (i := 3) (N := some 98) (zb 11 271) rfl rfl (by kernel_rfl) (by decide) (fun K hK => ?_)
      refine goes_ Tryd.func8 (by kernel_rfl) rfl #[.agg #[.int .i64 t', .int .i64 s', .slice B2 a'.length d2, .slice B3 b'.length d3]] (by rfl) rfl rfl (by (try simp only [List.map_toArray, List.map_cons, List.map_nil]); first | done | rfl) ?_
      with_reducible refine (laws_toRelation.calls kt2 t' s' B2 d2 a' B3 d3 b' _ _ _ _ _ (hB.below (below_step hB21 hB2)).r2 hB.l2 (hB.below (below_step hB21 hB2)).r3 hB.l3 htr2.out).mono ?_
      rintro e V3 ⟨q2, q3, rfl, r2, r3, hb3⟩
      obtain ⟨D2, l2, e2⟩ := Kd.R_slice r2
      subst e2
      obtain ⟨D3, l3, e3⟩ := Kd.S_slice r3
      subst e3
      have hAr3 : Arg V3 D2 l2 a' D3 l3 b' := rel_arg ⟨r2, r3⟩
      clear r2 r3
      refine ⟨_, rfl, ?_⟩
      have hB3 := below_step hB2 hb3
      have hX3 := blk_below hX2 hb3
      refine hK.out _ _ (hhSS _ hB3) (fun hHeld => ?_)
      clear hK K
      refine nm ?_
      refine one_ (i := 4) (N := some 99) (zb 11 287) rfl rfl (by kernel_rfl) (by decide) (fun K hK => ?_)
      refine goes_ Tryd.func9 (by kernel_rfl) rfl #[.agg #[.int .i64 t, .int .i64 s, .slice C2 a.length k2, .slice C3 b.length k3], .agg #[.int .i64 t', .int .i64 s', .slice D2 a'.length l2, .slice D3 b'.length l3]] (by rfl) rfl rfl (by (try simp only [List.map_toArray, List.map_cons, List.map_nil]); first | done | rfl) ?_
      have q := Rsf.restI t s C2 k2 a C3 k3 b t' s' D2 l2 a' D3 l3 b' _ ((hAr1.below hb2).below hb3) hAr3 hS hS' (glob_below hG2.out (below_step hB21 hB3))
      rw [hRq.out] at q
      with_reducible refine q.mono ?_
      clear q
      rintro e V4 ⟨H2, u2, H3, u3, rfl, hRW, hb4⟩
      refine ⟨_, rfl, ?_⟩
      have hB4 := below_step hB3 hb4
      have hX4 := blk_below hX3 hb4
      refine hK.out _ _ (hhSS _ hB4) (fun hHeld => ?_)
      clear hK K
      refine nm ?_
      refine pu 5 94 ?_
      refine pu 6 100 ?_
      refine pu 7 101 ?_
      exact norm_ (by simp only [putAll, Act.put, List.setIfInBounds_toArray, List.set_cons_zero, List.set_cons_succ]) (hCont (C2, k2, C3, k3, D2, l2, D3, l3, H2, u2, H3, u3, V1.heap.size) _ ⟨rel_lower hRW (Below.size hB3), hX4, hB4, Below.size hB1⟩)
    ·skip
     refine value_ (w1 := (w21.drew.alloc (.cells #[.int .i64 0, .int .i64 0, .slice none 0 0, .slice none 0 0] 27))) (v := .pointer (some ⟨w21.drew.heap.size, 0, none⟩)) (by rfl) rfl (by first | (go_simp; done) | (go_simp; rfl)) ?_
     have hb1 : Below w21.drew.heap.size w21.drew (w21.drew.alloc (.cells #[.int .i64 0, .int .i64 0, .slice none 0 0, .slice none 0 0] 27)) := below_alloc (Below.refl _ _) _
     have hB1 := below_step hhB0 hb1
     have hX1 := blk_new w21.drew (.cells #[.int .i64 0, .int .i64 0, .slice none 0 0, .slice none 0 0] 27)
     refine hK.out _ _ (hhSS _ hB1) (fun hHeld => ?_)
     clear hK K
     refine nm ?_
     refine one_ (i := 1) (N := some 96) (zb 11 263) rfl rfl (by kernel_rfl) (by decide) (fun K hK => ?_)
     refine goes_ Tryd.func8 (by kernel_rfl) rfl #[.agg #[.int .i64 t, .int .i64 s, .slice A2 a.length c2, .slice A3 b.length c3]] (by rfl) rfl rfl (by (try simp only [List.map_toArray, List.map_cons, List.map_nil]); first | done | rfl) ?_
     with_reducible refine (laws_toRelation.calls kt t s A2 c2 a A3 c3 b _ _ _ _ _ (hA.below (below_step hB21 hB1)).r2 hA.l2 (hA.below (below_step hB21 hB1)).r3 hA.l3 htr.out).mono ?_
     rintro e V2 ⟨q2, q3, rfl, r2, r3, hb2⟩
     obtain ⟨C2, k2, e2⟩ := Kd.R_slice r2
     subst e2
     obtain ⟨C3, k3, e3⟩ := Kd.S_slice r3
     subst e3
     have hAr1 : Arg V2 C2 k2 a C3 k3 b := rel_arg ⟨r2, r3⟩
     clear r2 r3
     refine ⟨_, rfl, ?_⟩
     have hB2 := below_step hB1 hb2
     have hX2 := blk_below hX1 hb2
     refine hK.out _ _ (hhSS _ hB2) (fun hHeld => ?_)
     clear hK K
     refine nm ?_
     refine one_ (i := 3) (N := some 98) (zb 11 271) rfl rfl (by kernel_rfl) (by decide) (fun K hK => ?_)
     refine goes_ Tryd.func8 (by kernel_rfl) rfl #[.agg #[.int .i64 t', .int .i64 s', .slice B2 a'.length d2, .slice B3 b'.length d3]] (by rfl) rfl rfl (by (try simp only [List.map_toArray, List.map_cons, List.map_nil]); first | done | rfl) ?_
     with_reducible refine (laws_toRelation.calls kt2 t' s' B2 d2 a' B3 d3 b' _ _ _ _ _ (hB.below (below_step hB21 hB2)).r2 hB.l2 (hB.below (below_step hB21 hB2)).r3 hB.l3 htr2.out).mono ?_
     rintro e V3 ⟨q2, q3, rfl, r2, r3, hb3⟩
     obtain ⟨D2, l2, e2⟩ := Kd.R_slice r2
     subst e2
     obtain ⟨D3, l3, e3⟩ := Kd.S_slice r3
     subst e3
     have hAr3 : Arg V3 D2 l2 a' D3 l3 b' := rel_arg ⟨r2, r3⟩
     clear r2 r3
     refine ⟨_, rfl, ?_⟩
     have hB3 := below_step hB2 hb3
     have hX3 := blk_below hX2 hb3
     refine hK.out _ _ (hhSS _ hB3) (fun hHeld => ?_)
     clear hK K
     refine nm ?_
     refine one_ (i := 4) (N := some 99) (zb 11 287) rfl rfl (by kernel_rfl) (by decide) (fun K hK => ?_)
     refine goes_ Tryd.func9 (by kernel_rfl) rfl #[.agg #[.int .i64 t, .int .i64 s, .slice C2 a.length k2, .slice C3 b.length k3], .agg #[.int .i64 t', .int .i64 s', .slice D2 a'.length l2, .slice D3 b'.length l3]] (by rfl) rfl rfl (by (try simp only [List.map_toArray, List.map_cons, List.map_nil]); first | done | rfl) ?_
     have q := Rsf.restI t s C2 k2 a C3 k3 b t' s' D2 l2 a' D3 l3 b' _ (hAr1.below hb3) hAr3 hS hS' (glob_below hG2.out (below_step hB21 hB3))
     rw [hRq.out] at q
     with_reducible refine q.mono ?_
     clear q
     rintro e V4 ⟨H2, u2, H3, u3, rfl, hRW, hb4⟩
     refine ⟨_, rfl, ?_⟩
     have hB4 := below_step hB3 hb4
     have hX4 := blk_below hX3 hb4
     refine hK.out _ _ (hhSS _ hB4) (fun hHeld => ?_)
     clear hK K
     refine nm ?_
     refine pu 5 94 ?_
     refine pu 6 100 ?_
     refine pu 7 101 ?_
     exact norm_ (by simp only [putAll, Act.put, List.setIfInBounds_toArray, List.set_cons_zero, List.set_cons_succ]) (hCont (C2, k2, C3, k3, D2, l2, D3, l3, H2, u2, H3, u3, w21.drew.heap.size) _ ⟨rel_lower hRW (Below.size hB3), hX4, hB4, Below.size hhB0⟩)
   rintro ⟨C2, k2, C3, k3, D2, l2, D3, l3, H2, u2, H3, u3, gH⟩ W ⟨hRW, bX, hBW, hle⟩
   dsimp only at hRW bX hle ⊢
   refine norm_ (a' := ?_) ?_ ?_
   rotate_left
   ·simp only [putAll, Act.put, List.setIfInBounds_toArray, List.set_cons_zero, List.set_cons_succ, i64_w, i32_w]
    rfl
   obtain ⟨e0, e1, e2, e3⟩ := box bX
   obtain ⟨f0, f1, f2, f3⟩ := box_open bX
   refine la 9 (fun K hK => ?_)
   refine sk ((put4 W gH RR.t RR.s H2 RR.a.length u2 H3 RR.b.length u3)) ?_
   refine hK.out _ _ ?_
   clear hK K e0 e1 e2 e3 f0 f1 f2 f3
   refine pu 10 16 ?_
   refine dn ?_
   have hBx : Box (put4 W gH RR.t RR.s H2 RR.a.length u2 H3 RR.b.length u3) gH RR.t RR.s H2 RR.a.length u2 H3 RR.b.length u3 := put_box bX
   have hRl := put_rel (t := RR.t) (s := RR.s) (A2 := H2) (n2 := RR.a.length) (c2 := u2) (A3 := H3) (n3 := RR.b.length) (c3 := u3) hRW bX
   have hBl : Below w21.heap.size w21 (put4 W gH RR.t RR.s H2 RR.a.length u2 H3 RR.b.length u3) := put_below hBW hle
   have hle := hle
   clear bX hRW hBW hle hhSS hhB0
   generalize (put4 W gH RR.t RR.s H2 RR.a.length u2 H3 RR.b.length u3) = w22 at hBx hRl hBl ⊢
   have hst22 := hst21.below hBl
   have h22_0 : w22.cell? ⟨gH, 0, none⟩ = some (.int .i64 RR.t) := (blk_cell hBx 0).trans rfl
   have h22_1 : w22.cell? ⟨gH, 1, none⟩ = some (.int .i64 RR.s) := (blk_cell hBx 1).trans rfl
   have h22_2 : w22.cell? ⟨gH, 2, none⟩ = some (.slice H2 RR.a.length u2) := (blk_cell hBx 2).trans rfl
   have h22_3 : w22.cell? ⟨gH, 3, none⟩ = some (.slice H3 RR.b.length u3) := (blk_cell hBx 3).trans rfl
   have v22_0 : w22.cell? ⟨gW, 0, none⟩ = some (.int .i64 RR.t) := (blk_cell hst22.pw 0).trans rfl
   have v22_1 : w22.cell? ⟨gW, 1, none⟩ = some (.int .i64 RR.s) := (blk_cell hst22.pw 1).trans rfl
   have v22_2 : w22.cell? ⟨gW, 2, none⟩ = some (.slice W2 RR.a.length v2) := (blk_cell hst22.pw 2).trans rfl
   have v22_3 : w22.cell? ⟨gW, 3, none⟩ = some (.slice W3 RR.b.length v3) := (blk_cell hst22.pw 3).trans rfl
   go_wp2_with (first
    | (go_at_call 10; (with_reducible refine (eq_same RR.t RR.s H2 u2 RR.a H3 u3 RR.b W2 v2 W3 v3 w22 (rel_arg hRl) (rel_arg hst22.rW) hF.out.small).mono ?_); go_loud (
      rintro e w23 ⟨rfl, hb23⟩
      have hst23 := hst22.below hb23
      have g23_0 : w23.cell? ⟨gG, 0, none⟩ = some (.int .i64 RR.t) := (blk_cell hst23.pg 0).trans rfl
      have g23_1 : w23.cell? ⟨gG, 1, none⟩ = some (.int .i64 RR.s) := (blk_cell hst23.pg 1).trans rfl
      have g23_2 : w23.cell? ⟨gG, 2, none⟩ = some (.slice G2 RR.a.length z2) := (blk_cell hst23.pg 2).trans rfl
      have g23_3 : w23.cell? ⟨gG, 3, none⟩ = some (.slice G3 RR.b.length z3) := (blk_cell hst23.pg 3).trans rfl))
    | (go_at_call 12; (with_reducible refine (held1 RR.a.length RR.t RR.s G2 z2 G3 z3 RR.b w23 (hst23.heldB) (hst23.heldR) (by have := hF.out.b; omega) hGl.out hTGq.out).mono ?_); go_loud (
      rintro e w24 ⟨rfl, hb24⟩
      have hst24 := hst23.below hb24)))
   go_ret
   exact ⟨rfl, hst24.bel⟩
end Go.Proofs.YtnjdkhnepmmfgaaDoor.LwR
namespace Go.Proofs.YtnjdkhnepmmfgaaDoor.WFnExactRestrictFunction
set_option linter.unusedVariables false
set_option linter.unusedSimpArgs false
open Go.RowKit Go.Proofs.YtnjdkhnepmmfgaaDoorW.PrintWords Tid
theorem glob_of_laid {W : World} (h : laidMetH Tryd.prog Rows.fnExactRestrictFunctionRow.laid W) : Glob W := by
 rw [MakeChecks.laidMetH_plain _ _ _ (by kernel_rfl)] at h
 have h2 := h.filter (fun x => x.1 == "internal/strconv.uint64pow10")
 exact Lib.tabIs_of_head (g := 0) (t := 158) (e := 152) (n := 20) (rest := []) (by kernel_rfl) (by kernel_rfl) (by kernel_rfl) (by kernel_rfl) (by kernel_rfl) (by kernel_rfl) h2
abbrev kRel : Kd (Int × Int × List Bool × List (List Int)) := Kd.pair (Kd.int .i64) (Kd.pair (Kd.int .i64) (Kd.pair (Kd.slice 4 Kd.bool) (Kd.slice 75 (Kd.slice 2 (Kd.int .i64)))))
theorem kRel_open {W : World} {y : Int × Int × List Bool × List (List Int)} {l : List Value} (h : kRel.K W y l) : ∃ A1 c1 A2 c2, l = [.int .i64 y.1, .int .i64 y.2.1, .slice A1 y.2.2.1.length c1, .slice A2 y.2.2.2.length c2] ∧ Go.Proofs.YtnjdkhnepmmfgaaDoor.Lr.Arg W A1 c1 y.2.2.1 A2 c2 y.2.2.2 := by
 obtain ⟨_, _, rfl, rfl, ⟨_, _, rfl, rfl, ⟨_, _, rfl, ⟨A1, c1, rfl, h1, r1⟩, ⟨A2, c2, rfl, h2, r2⟩⟩⟩⟩ := h
 exact ⟨A1, c1, A2, c2, rfl, r1, h1, r2, h2⟩
theorem walk (W : World) (hG : Glob W) (l0 : List Value) (y0 : Int × Int × List Bool × List (List Int)) (k0 : kRel.K W y0 l0) (b0 : ((Lit.int .i64 y0.1).wf = true ∧ (Lit.int .i64 y0.2.1).wf = true ∧ (y0.2.2.1.length ≤ 9223372036854775807 ∧ ∀ z ∈ y0.2.2.1, True) ∧ (y0.2.2.2.length ≤ 9223372036854775807 ∧ ∀ z ∈ y0.2.2.2, (z.length ≤ 9223372036854775807 ∧ ∀ z' ∈ z, (Lit.int .i64 z').wf = true)))) (l1 : List Value) (y1 : Int × Int × List Bool × List (List Int)) (k1 : kRel.K W y1 l1) (b1 : ((Lit.int .i64 y1.1).wf = true ∧ (Lit.int .i64 y1.2.1).wf = true ∧ (y1.2.2.1.length ≤ 9223372036854775807 ∧ ∀ z ∈ y1.2.2.1, True) ∧ (y1.2.2.2.length ≤ 9223372036854775807 ∧ ∀ z ∈ y1.2.2.2, (z.length ≤ 9223372036854775807 ∧ ∀ z' ∈ z, (Lit.int .i64 z').wf = true)))) :
  Calls Tryd.prog 3 #[.agg l0.toArray, .agg l1.toArray] W fun e W' => e = .returned (.bool true) ∧ Below W.heap.size W W' := by
 obtain ⟨A1, c1, A2, c2, rfl, hA⟩ := kRel_open k0
 obtain ⟨B1, d1, B2, d2, rfl, hB⟩ := kRel_open k1
 exact Go.Proofs.YtnjdkhnepmmfgaaDoor.LwR.law_calls y0.1 y0.2.1 A1 c1 y0.2.2.1 A2 c2 y0.2.2.2 y1.1 y1.2.1 B1 d1 y1.2.2.1 B2 d2 y1.2.2.2 W hA hB hG b0.2.2.1.1 b0.2.2.2.1 (fun r hr => (b0.2.2.2.2 r hr).1) b1.2.2.1.1 b1.2.2.2.1 (fun r hr => (b1.2.2.2.2 r hr).1)
end Go.Proofs.YtnjdkhnepmmfgaaDoor.WFnExactRestrictFunction
namespace Go.Proofs.YtnjdkhnepmmfgaaDoor.Reads
set_option linter.unusedVariables false
set_option linter.unusedSimpArgs false
open Go.RowKit Go.Deep Go.Proofs.YtnjdkhnepmmfgaaDoorW.PrintWords
/-- Whatever is read at type t is of kind d, and B holds of it. -/
def Opens (P : Program) (t : TypeId) {α : Type} (d : Kd α) (B : α → Prop) : Prop :=
 P.cellsOf t = d.sz ∧ ∀ (H : Type) (enc : TypeId × Value → H) (w : World) (spare : Nat → Bool) (held : Bool) (fuel : Nat) (cs : List Value) (x : DataW H × List MemPlace),
  DataW.trod enc P w 0 spare held fuel t cs = some x → ∃ y, d.K w y cs ∧ B y
variable {P : Program} {t e : TypeId}
theorem opens_int {k : IntKind} (ht : P.underlying t = some (.int k)) (hc : P.cellsOf t = 1) : Opens P t (Kd.int k) (fun n => (Lit.int k n).wf = true) :=
 ⟨hc, fun H enc w spare held fuel cs x h => by
  obtain ⟨n, rfl, _, hw⟩ := DataW.trod_int ht h
  exact ⟨n, rfl, hw⟩⟩
theorem opens_bool (ht : P.underlying t = some .bool) (hc : P.cellsOf t = 1) : Opens P t Kd.bool (fun _ => True) :=
 ⟨hc, fun H enc w spare held fuel cs x h => by
  obtain ⟨b, rfl, _⟩ := DataW.trod_bool ht h
  exact ⟨b, rfl, trivial⟩⟩
theorem opens_slice {α : Type} {d : Kd α} {B : α → Prop} (ht : P.underlying t = some (.slice e)) (hc : P.cellsOf t = 1) (he : Opens P e d B) : Opens P t (Kd.slice e d) (fun l => l.length ≤ 9223372036854775807 ∧ ∀ x ∈ l, B x) :=
 ⟨hc, fun H enc w spare held fuel cs x h => by
  rcases open_slice ht h with ⟨rfl, _⟩ | ⟨a, len, cap, m, n, D, Pl, rfl, _, hl, hm, hmm, _, hx⟩
  ·exact ⟨[], ⟨none, 0, rfl, Nat.le_refl _, rfl, by simp, fun h => by simp at h⟩, by simp, by simp⟩
  ·have hlm : len ≤ m := by rw [hmm]; split <;> omega
   obtain ⟨hs, hr⟩ := he
   have hex : ∀ i, i < len → ∃ y, B y ∧ ∃ c, c.length = d.sz ∧ d.K w y c ∧ ∀ k u, c[k]? = some u → w.cell? (a.add (i * d.sz + k)) = some u := by
    intro i hi
    obtain ⟨c, h1, h2⟩ := hx i (by omega)
    obtain ⟨_, hcl, hcell⟩ := World.cells?_some h1
    obtain ⟨y, hy, hB⟩ := hr H enc w spare held n c _ h2
    refine ⟨y, hB, c, by rw [hcl, hs], hy, fun k u hu => ?_⟩
    have hk : k < P.cellsOf e := by rw [← hcl]; exact (List.getElem?_eq_some_iff.1 hu).1
    have := hcell k hk
    rw [hu] at this
    rw [← this, hs]
    have ea : ∀ (b : Addr) (x y : Nat), (b.add x).add y = b.add (x + y) := fun b x y => by
     unfold Addr.add
     by_cases hx0 : x = 0 <;> by_cases hy0 : y = 0 <;> simp [hx0, hy0, Nat.add_assoc]
    rw [ea]
   clear hx
   have key : ∀ n, n ≤ len → ∃ l : List α, l.length = n ∧ ∀ i, (hi : i < l.length) → B l[i] ∧ ∃ c, c.length = d.sz ∧ d.K w l[i] c ∧ ∀ k u, c[k]? = some u → w.cell? (a.add (i * d.sz + k)) = some u := by
    intro n
    induction n with
    | zero => intro _; exact ⟨[], rfl, fun i hi => by simp at hi⟩
    | succ n ih =>
     intro hn
     obtain ⟨l, hl1, hl2⟩ := ih (by omega)
     obtain ⟨y, hB, hy⟩ := hex n (by omega)
     refine ⟨l ++ [y], by simp [hl1], fun i hi => ?_⟩
     by_cases h' : i < l.length
     ·rw [List.getElem_append_left h']
      exact hl2 i h'
     ·have : i = l.length := by simp at hi; omega
      subst this
      simp only [List.getElem_append_right (Nat.le_refl _), Nat.sub_self, List.getElem_cons_zero]
      rw [hl1]
      exact ⟨hB, hy⟩
   obtain ⟨l, hl1, hl2⟩ := key len (Nat.le_refl _)
   unfold maxLen at hm
   refine ⟨l, ⟨some a, cap, by rw [hl1], by omega, rfl, by omega, fun _ => ⟨a, rfl, fun j p hp => ?_⟩⟩, by omega, fun x hx => ?_⟩
   ·obtain ⟨hj, rfl⟩ := List.getElem?_eq_some_iff.1 hp
    exact (hl2 j hj).2
   ·obtain ⟨i, hi, rfl⟩ := List.mem_iff_getElem.1 hx
    exact (hl2 i hi).1⟩
/-! Fields in line: 'At o cs' is what stands from o on. -/
set_option linter.unusedVariables false in
def Fields (P : Program) : List Field → Nat → (α : Type) → Kd α → (α → Prop) → Prop
 | [], _, _, _, _ => False
 | [f], o, α, d, B => f.offset = o ∧ Opens P f.type d B
 | f :: g :: fs, o, α, d, B => ∃ (β γ : Type) (b : Kd β) (c : Kd γ) (B1 : β → Prop) (B2 : γ → Prop) (h : α = (β × γ)), f.offset = o ∧ Opens P f.type b B1 ∧ Fields P (g :: fs) (o + b.sz) γ c B2 ∧
   h ▸ d = Kd.pair b c ∧ ∀ x, B x ↔ B1 (cast h x).1 ∧ B2 (cast h x).2
theorem fields_one {α : Type} {d : Kd α} {B : α → Prop} {f : Field} {o : Nat} (ho : f.offset = o) (h : Opens P f.type d B) : Fields P [f] o α d B := ⟨ho, h⟩
theorem fields_cons {β γ : Type} {b : Kd β} {c : Kd γ} {B1 : β → Prop} {B2 : γ → Prop} {f g : Field} {fs : List Field} {o : Nat} (ho : f.offset = o) (h : Opens P f.type b B1) (hr : Fields P (g :: fs) (o + b.sz) γ c B2) :
  Fields P (f :: g :: fs) o (β × γ) (Kd.pair b c) (fun x => B1 x.1 ∧ B2 x.2) := ⟨β, γ, b, c, B1, B2, rfl, ho, h, hr, rfl, fun _ => Iff.rfl⟩
theorem fields_read : ∀ (fs : List Field) (o : Nat) (α : Type) (d : Kd α) (B : α → Prop), Fields P fs o α d B → ∀ (H : Type) (enc : TypeId × Value → H) (w : World) (spare : Nat → Bool) (held : Bool) (n : Nat) (cs : List Value) (xs : List (DataW H × List MemPlace)),
  cs.length = o + d.sz → xs.length = fs.length → (∀ (i : Nat) (f : Field), fs[i]? = some f → DataW.trod enc P w 0 spare held n f.type ((cs.drop f.offset).take (P.cellsOf f.type)) = xs[i]?) → ∃ y, d.K w y (cs.drop o) ∧ B y
 | [], _, _, _, _, h => h.elim
 | [f], o, α, d, B, h => by
  obtain ⟨rfl, h⟩ := h
  intro H enc w spare held n cs xs hl hx hf
  have h0 := hf 0 f rfl
  obtain ⟨x, hx0⟩ : ∃ x, xs[0]? = some x := ⟨_, List.getElem?_eq_getElem (by rw [hx]; simp)⟩
  rw [hx0] at h0
  obtain ⟨y, hy, hB⟩ := h.2 H enc w spare held n _ _ h0
  refine ⟨y, ?_, hB⟩
  rw [List.take_of_length_le (by rw [h.1, List.length_drop, hl]; omega)] at hy
  exact hy
 | f :: g :: fs, o, α, d, B, h => by
  obtain ⟨β, γ, b, c, B1, B2, rfl, rfl, h1, h2, rfl, hB⟩ := h
  intro H enc w spare held n cs xs hl hx hf
  have h0 := hf 0 f rfl
  obtain ⟨x, hx0⟩ : ∃ x, xs[0]? = some x := ⟨_, List.getElem?_eq_getElem (by rw [hx]; simp)⟩
  rw [hx0] at h0
  obtain ⟨y, hy, hB1⟩ := h1.2 H enc w spare held n _ _ h0
  obtain ⟨z, hz, hB2⟩ := fields_read (g :: fs) (f.offset + b.sz) γ c B2 h2 H enc w spare held n cs (xs.drop 1) (by rw [hl]; show _ + (b.sz + c.sz) = _; omega) (by simp [hx]) (fun i f' hi => by
   rw [List.getElem?_drop, Nat.add_comm 1 i]
   exact hf (i + 1) f' (by simpa using hi))
  refine ⟨(y, z), ⟨_, _, ?_, hy, hz⟩, (hB (y, z)).2 ⟨hB1, hB2⟩⟩
  rw [h1.1, ← List.drop_drop, List.take_append_drop]
theorem opens_struct {α : Type} {d : Kd α} {B : α → Prop} {fs : Array Field} (ht : P.underlying t = some (.struct fs)) (hc : P.cellsOf t = d.sz) (h : Fields P fs.toList 0 α d B) : Opens P t d B :=
 ⟨hc, fun H enc w spare held fuel cs x hx => by
  obtain ⟨xs, n, _, _, hl, hlen, hf⟩ := DataW.trod_struct ht hx
  obtain ⟨y, hy, hB⟩ := fields_read fs.toList 0 α d B h H enc w spare held n cs xs (by rw [hl, hc]; omega) (by simpa using hlen) (fun i f hi => hf i f (by simpa using hi))
  exact ⟨y, hy, hB⟩⟩
/-- An argument: what it is made of. -/
theorem opens_arg {α : Type} {d : Kd α} {B : α → Prop} (h : Opens P t d B) {H : Type} {enc : TypeId × Value → H} {w : World} {spare : Nat → Bool} {held : Bool} {v : Value} {x : DataW H} {ps : List MemPlace}
  (hv : DataW.Trod enc P w 0 spare held t v x ps) : ∃ y, d.K w y v.cells.toList ∧ B y := by
 obtain ⟨fuel, hf⟩ := hv
 exact h.2 H enc w spare held fuel _ _ hf
end Go.Proofs.YtnjdkhnepmmfgaaDoor.Reads
namespace Go.Proofs.YtnjdkhnepmmfgaaDoor.LFnExactRestrictFunction
open Go.ChangeShapes Go.WideShapes Go.ChangeAt Go.RowKit Go.Proofs.YtnjdkhnepmmfgaaDoorW.PrintWords Reads PT3
open Go.ChangeMaps (open_string shut_string)
theorem own : ownKnob Tryd.prog.godebug = none := by kernel_rfl
theorem laidOut : laidOutB Tryd.prog = true := by kernel_rfl
/-- The door's own heap meets the condition. -/
theorem door_met (os : Os) (args : Array Value) : laidMetH Tryd.prog Rows.fnExactRestrictFunctionRow.laid ((World.doorLaid Tryd.prog 72 os).forCall (fun _ _ => 0) ⟨#[], args, []⟩).memory :=
 laidMetH_of_parts3 (fuel := 8) (laidMet_of_run' 8 (by kernel_rfl) (by kernel_rfl)) (by kernel_rfl) (by kernel_rfl)
set_option maxRecDepth 100000 in
theorem lifted (os : Os) (started : os.Started) (H : Type) (enc : TypeId × Value → H) :
  ReturnsInHanded {} Tryd.checked os 3 .any (fun w args => (Rows.fnExactRestrictFunctionSpec.pre enc Tryd.prog Tryd.f3 [] false w args ∧ laidMetH Tryd.prog Rows.fnExactRestrictFunctionRow.laid w) ∧ sizedMet enc Tryd.prog Tryd.f3 (OpenSpec.ofChange Rows.fnExactRestrictFunctionSpec) false w args)
   (Rows.fnExactRestrictFunctionSpec.post enc Tryd.prog Tryd.f3 false true false false) := by
 refine returnsInHanded_of_change_and (C := Tryd.checked) (X := fun w _ => laidMetH Tryd.prog Rows.fnExactRestrictFunctionRow.laid w) (fun _ _ _ hh h => h.of_heap hh) own started (by kernel_rfl) Tryd.func3
  (ChangeSpec.witness_shaped (enc := enc) (C := Tryd.checked) (os := os) (X := fun w _ => laidMetH Tryd.prog Rows.fnExactRestrictFunctionRow.laid w) false (World.doorLaid Tryd.prog 72 os) #[.agg #[.int .i64 0, .int .i64 0, .slice none 0 0, .slice none 0 0], .agg #[.int .i64 0, .int .i64 0, .slice none 0 0, .slice none 0 0]] 8 rfl (World.shaped_of_RefB (by kernel_rfl) (by kernel_rfl)) (by kernel_rfl) (by kernel_rfl) (by kernel_rfl) (door_met os _)) ?_
 intro W base args ds gs before hval0 hW hcnd hsz0 hL _
 have hval : ∀ (j : Nat) t v, Tryd.f3.params[j]? = some t → args[j]? = some v → Value.okWide Tryd.prog W .any base t v := hval0
 have hW' := hW
 obtain ⟨p, q, hA0, hV, rfl, hfz, hnd⟩ := hW
 have hA : DataW.TrodAll enc Tryd.prog W 0 (fun _ => true) true Tryd.f3.params.toList args.toList ds p := hA0
 rw [Tryd.params3] at hA hval
 obtain ⟨v0, vs0, d0, ds0, p0, q0, hargs, rfl, rfl, h0, r0⟩ := trodAll_cons hA
 obtain ⟨v1, vs1, d1, ds1, p1, q1, rfl, rfl, rfl, h1, r1⟩ := trodAll_cons r0
 obtain ⟨rfl, rfl, rfl⟩ := trodAll_nil r1
 obtain rfl : args = #[v0, v1] := by cases args; simp_all
 obtain ⟨rfl, rfl⟩ := trodVars_none hV
 have k0 := h0
 have lt0 : ∀ x ∈ p0, x.block < W.heap.size := by obtain ⟨m, hm⟩ := k0; exact DataW.trod_lt m _ _ _ hm
 obtain ⟨y0, kk0, bb0⟩ := opens_arg (opens_struct Tryd.underlying25 (by kernel_rfl) (fields_cons rfl (opens_int Tryd.underlying2 (by kernel_rfl)) (fields_cons rfl (opens_int Tryd.underlying2 (by kernel_rfl)) (fields_cons rfl (opens_slice Tryd.underlying22 (by kernel_rfl) (opens_bool Tryd.underlying4 (by kernel_rfl))) (fields_one rfl (opens_slice Tryd.underlying23 (by kernel_rfl) (opens_slice Tryd.underlying75 (by kernel_rfl) (opens_int Tryd.underlying2 (by kernel_rfl))))))))) h0
 obtain ⟨ca0, rfl, _⟩ := okWide_struct Tryd.underlying25 (hval 0 25 v0 rfl rfl)
 obtain ⟨l0, rfl⟩ : ∃ l : List Value, ca0 = l.toArray := ⟨ca0.toList, by simp⟩
 replace kk0 : (Kd.pair (Kd.int .i64) (Kd.pair (Kd.int .i64) (Kd.pair (Kd.slice 4 Kd.bool) (Kd.slice 75 (Kd.slice 2 (Kd.int .i64)))))).K W y0 l0 := kk0
 have k1 := h1
 have lt1 : ∀ x ∈ p1, x.block < W.heap.size := by obtain ⟨m, hm⟩ := k1; exact DataW.trod_lt m _ _ _ hm
 obtain ⟨y1, kk1, bb1⟩ := opens_arg (opens_struct Tryd.underlying25 (by kernel_rfl) (fields_cons rfl (opens_int Tryd.underlying2 (by kernel_rfl)) (fields_cons rfl (opens_int Tryd.underlying2 (by kernel_rfl)) (fields_cons rfl (opens_slice Tryd.underlying22 (by kernel_rfl) (opens_bool Tryd.underlying4 (by kernel_rfl))) (fields_one rfl (opens_slice Tryd.underlying23 (by kernel_rfl) (opens_slice Tryd.underlying75 (by kernel_rfl) (opens_int Tryd.underlying2 (by kernel_rfl))))))))) h1
 obtain ⟨ca1, rfl, _⟩ := okWide_struct Tryd.underlying25 (hval 1 25 v1 rfl rfl)
 obtain ⟨l1, rfl⟩ : ∃ l : List Value, ca1 = l.toArray := ⟨ca1.toList, by simp⟩
 replace kk1 : (Kd.pair (Kd.int .i64) (Kd.pair (Kd.int .i64) (Kd.pair (Kd.slice 4 Kd.bool) (Kd.slice 75 (Kd.slice 2 (Kd.int .i64)))))).K W y1 l1 := kk1
 clear hA0 hval0 hsz0
 refine (Go.Proofs.YtnjdkhnepmmfgaaDoor.WFnExactRestrictFunction.walk W (WFnExactRestrictFunction.glob_of_laid hL) l0 y0 kk0 bb0 l1 y1 kk1 bb1).mono fun e W' ⟨he, bel⟩ => ?_
 subst he
 exact ⟨_, rfl, _, _, _, [], _, [], hW', trodAll_mk1 (shut_bool Tryd.underlying4 _), (trodAll_cons_mk (Below.trod laidOut (by kernel_rfl) (of_decide_eq_true (by kernel_rfl)) k0 bel lt0) (trodAll_cons_mk (Below.trod laidOut (by kernel_rfl) (of_decide_eq_true (by kernel_rfl)) k1 bel lt1) trodAll_mk0)), rfl, bel.frame _, fun h => by cases h⟩
theorem over : Rows.fnExactRestrictFunctionRow.holds Tryd.pinned (OpenSpec.ofChange Rows.fnExactRestrictFunctionSpec) :=
 OpenClaim.holds_of_wide 3 Tryd.f3 rfl rfl rfl rfl rfl rfl rfl ⟨rfl, rfl, rfl, rfl, rfl⟩ rfl rfl rfl rfl rfl (by kernel_rfl) Tryd.func3 (by kernel_rfl)
  (of_decide_eq_true (by kernel_rfl)) (by unfold Func.isWrapper; first | (rw [if_pos (by decide +kernel)]; kernel_rfl) | (rw [if_neg (by decide +kernel)]; exact ⟨rfl, rfl⟩))
  (fun os started H enc _ => lifted os started H enc)
theorem proved : Rows.FnExactRestrictFunctionSaid := over
#print axioms proved
end Go.Proofs.YtnjdkhnepmmfgaaDoor.LFnExactRestrictFunction
namespace Go.Proofs.YtnjdkhnepmmfgaaDoor
/-- The row, under a short name, for the claim. -/
theorem fnExactRestrictFunction_holds : Rows.FnExactRestrictFunctionSaid := LFnExactRestrictFunction.proved
end Go.Proofs.YtnjdkhnepmmfgaaDoor
