/- Parts of the proof, put together by a program of the session. -/
import Derived.Test.YtnjdkhnepmmfgaaDoorCore0
import Derived.Test.YtnjdkhnepmmfgaaDoorCore2
import Derived.Laws.OwnMore
import Derived.Shelf.LaysM
import Derived.Shelf.Strconv.Itoa3
import Derived.Shelf.SlicesE.Clone
import Derived.Test.YtnjdkhnepmmfgaaDoorProg
import Derived.Test.YtnjdkhnepmmfgaaDoorCore1
import Derived.Lib.AppendIntMem
import Derived.Lib.LaidTab
import Derived.Lib.ItoaNum
namespace Go.Proofs.YtnjdkhnepmmfgaaDoor.Mk2
set_option linter.unusedVariables false
set_option linter.unusedSimpArgs false
open Go Go.RowKit Go.Proofs.YtnjdkhnepmmfgaaDoorW.PrintWords Go.Proofs.YtnjdkhnepmmfgaaDoorW.PrintLast Go.Proofs.YtnjdkhnepmmfgaaDoorW.PrintMore Kp Mg Mk Mtx
set_option maxHeartbeats 2000000 in
set_option maxRecDepth 100000 in
theorem markT2 (k n : Nat) (A : Option Addr) (c : Nat) (vals : List Value) (w : World) (base : Nat) (hle : base ≤ w.heap.size) (h : w.ownsRow base 79 2 (.slice A n c) n vals) (hk : k + 2 * n ≤ 1000000000) :
  Calls Tryd.prog 47 #[.slice A n c, .int .i64 (k : Int)] w fun e w' => e = .returned (.int .i64 ((k + 2 * n : Nat) : Int)) ∧ w'.ownsRow base 79 2 (.slice A n c) n (mV (vT k) (2 * n)) ∧ KeepS base w w' (fun b => some b = (Value.slice A n c).ownBlock) := by
 have h0 := Aside0.mk h
 have hvl : vals.length = 2 * n := by rw [h.1, Nat.mul_comm]
 have hvq := Aside0.mk hvl
 have hkq := Aside0.mk hk
 obtain ⟨E, hE⟩ : ∃ E, k + 2 * n = E := ⟨_, rfl⟩
 have hEq := Aside0.mk hE
 rw [hE]
 clear h hvl hk hE
 go_enter Tryd.func47, Tryd.ntmps47
 go_wp2_with fail
 go_loopg [1, 5] n (fun kq v1 v5 W => ∃ i T : Nat, v1 = .int .i64 (T : Int) ∧ v5 = .int .i64 (i : Int) ∧ Aside0 (T = k + 2 * i) ∧ Aside0 (kq = n - i) ∧ i ≤ n ∧ Aside0 (W.ownsRow base 79 2 (.slice A n c) n ((List.range (2 * i)).map (vT k) ++ vals.drop (2 * i))) ∧ Aside0 (KeepS base w W (fun b => some b = (Value.slice A n c).ownBlock)))
 case atStart => exact ⟨0, k, rfl, rfl, ⟨rfl⟩, ⟨rfl⟩, Nat.zero_le _, ⟨by simpa using h0.out⟩, ⟨KeepS.refl _ _ hle⟩⟩
 case round =>
  obtain ⟨i, T, rfl, rfl, hT, hq, hil, hR, hK⟩ := hrel
  by_cases hi : i < n
  ·have hi1 : ((i : Int) < (n : Int)) = True := eq_true (by omega)
   have h0i : (0 ≤ (i : Int)) = True := eq_true (by omega)
   obtain ⟨g, rfl, hgb, _⟩ := own_g hR.out (by omega)
   have hgq := Aside0.mk hgb
   have hiq := Aside0.mk hi
   have hsw : wrap64 ((i : Int) + 1) = ((i + 1 : Nat) : Int) := wrapN (by have := hkq.out; omega)
   clear hgb hi
   go_wp2_with fail
   go_loopg [1, 6] 2 (fun kz v1 v6 W => ∃ j U : Nat, v1 = .int .i64 (U : Int) ∧ v6 = .int .i64 (j : Int) ∧ Aside0 (U = k + 2 * i + j) ∧ Aside0 (kz = 2 - j) ∧ j ≤ 2 ∧ Aside0 (W.ownsRow base 79 2 (.slice (some ⟨g, 0, none⟩) n c) n ((List.range (2 * i + j)).map (vT k) ++ vals.drop (2 * i + j))) ∧ Aside0 (KeepS base w W (fun b => some b = (Value.slice (some ⟨g, 0, none⟩) n c).ownBlock)))
   case atStart => exact ⟨0, T, rfl, rfl, ⟨hT.out⟩, ⟨rfl⟩, Nat.zero_le _, hR, hK⟩
   case round =>
    clear hR hK
    obtain ⟨j, U, rfl, rfl, hU, hz, hj2, hR, hK⟩ := hrel
    by_cases hj : j < 2
    ·have hj1 : ((j : Int) < 2) = True := eq_true (by omega)
     have h0j : (0 ≤ (j : Int)) = True := eq_true (by omega)
     have hUw : wrap64 ((U : Int) + 1) = ((U + 1 : Nat) : Int) := wrapN (by have := hkq.out; have := hU.out; have := hiq.out; clear hsw; omega)
     have hjw : wrap64 ((j : Int) + 1) = ((j + 1 : Nat) : Int) := wrapN (by clear hsw hUw; omega)
     have hUwq := Aside0.mk hUw
     have hjwq := Aside0.mk hjw
     have hswq := Aside0.mk hsw
     clear hUw hjw hsw
     have hp : 2 * i + j < 2 * n := by have := hiq.out; omega
     have hv : (vT k (2 * i + j)) = .string (mT U) := by unfold vT; rw [hU.out, Nat.add_assoc]
     have hUb : U < 1000000000000000000 := by have := hU.out; have := hkq.out; have := hiq.out; omega
     have hvq2 := Aside0.mk hv
     have hpq := Aside0.mk hp
     have ei : i * 2 = 2 * i := Nat.mul_comm _ _
     have hUbq := Aside0.mk hUb
     clear hv hp hUb
     go_wp2_with fail
     have hKe := hK
     clear hK
     refine start_ (n := 8) (S := (fun _ => True)) (ds := [7]) (.replicate 8 false) (by kernel_rfl) rfl rfl (trivial) (fun hHeld => ?_)
     refine pure_ (i := 0) (N := some 17) (v := ?_) (a' := ?_) (zb 8 1) rfl rfl (by kernel_rfl) (fun _ _ _ h => h) (Or.inl ⟨by rfl, ?_⟩) ?_ ?_
     rotate_left
     ·intro w'
      go_simp
      with_reducible rfl
     rotate_left
     ·simp only [Act.put, Za, Zb, Zc, i64_w, i32_w]
      rfl
     refine pure_ (i := 1) (N := some 18) (v := ?_) (a' := ?_) (zb 8 3) rfl rfl (by kernel_rfl) (fun _ _ _ h => h) (Or.inl ⟨by rfl, ?_⟩) ?_ ?_
     rotate_left
     ·intro w'
      go_simp
      with_reducible rfl
     rotate_left
     ·simp only [Act.put, Za, Zb, Zc, i64_w, i32_w]
      rfl
     refine pure_ (i := 2) (N := some 19) (v := ?_) (a' := ?_) (zb 8 7) rfl rfl (by kernel_rfl) (fun _ _ _ h => h) (Or.inl ⟨by rfl, ?_⟩) ?_ ?_
     rotate_left
     ·intro w'
      go_simp
      with_reducible rfl
     rotate_left
     ·simp only [Act.put, Za, Zb, Zc, i64_w, i32_w]
      rfl
     refine pure_ (i := 3) (N := some 20) (v := ?_) (a' := ?_) (zb 8 15) rfl rfl (by kernel_rfl) (fun _ _ _ h => h) (Or.inl ⟨by rfl, ?_⟩) ?_ ?_
     rotate_left
     ·intro w'
      go_simp
      with_reducible rfl
     rotate_left
     ·simp only [Act.put, Za, Zb, Zc, i64_w, i32_w]
      rfl
     refine pure_ (i := 5) (N := some 22) (v := ?_) (a' := ?_) (zb 8 47) rfl rfl (by kernel_rfl) (fun _ _ _ h => h) (Or.inl ⟨by rfl, ?_⟩) ?_ ?_
     rotate_left
     ·intro w'
      go_simp
      with_reducible rfl
     rotate_left
     ·simp only [Act.put, Za, Zb, Zc, i64_w, i32_w]
      rfl
     refine one_ (i := 4) (N := some 21) (zb 8 63) rfl rfl (by kernel_rfl) (by decide) (fun K hK => ?_)
     refine goes_ Tryd.func89 (by kernel_rfl) rfl #[.int .i64 (U : Int)] (by rfl) rfl rfl (by (try simp only [List.map_toArray, List.map_cons, List.map_nil]); first | done | rfl) ?_
     with_reducible refine (markText hUbq.out _).mono ?_
     rintro e w6 ⟨rfl, hb6⟩
     refine ⟨_, rfl, ?_⟩
     refine hK.out _ _ trivial (fun hHeld => ?_)
     clear hK K
     refine norm_ (a' := ?_) ?_ ?_
     rotate_left
     ·show Act.put _ (some 21) _ = _
      simp only [Act.put, Za, Zb, Zc, i64_w, i32_w]
      rfl
     refine pure_ (i := 6) (N := some 23) (v := ?_) (a' := ?_) (zb 8 127) rfl rfl (by kernel_rfl) (fun _ _ _ h => h) (Or.inl ⟨by rfl, ?_⟩) ?_ ?_
     rotate_left
     ·intro w'
      go_simp
      with_reducible rfl
     rotate_left
     ·simp only [Act.put, Za, Zb, Zc, i64_w, i32_w]
      rfl
     have hb7 : Below wr.heap.size wr w6 := below_step (below_drew1 (Below.refl _ _)) hb6
     have hR6 := own_move hR.out (w1 := w6) (fun b hb => hb7.block b (own_lt hR.out b hb))
     have hKk := hKe.out.below hb7
     have hS := (hR6.stored (2 * i + j) (vT k (2 * i + j))).1
     rw [Mk.part (vT k) vals hvq.out hpq.out, hvq2.out] at hS
     have hK2 := hKk.set (p := ⟨g, 2 * i + j, none⟩) (by simp [Value.ownBlock]) hgq.out (.string (mT U))
     have f1 := hR6.frozenAt (2 * i + j)
     obtain ⟨ob, k2⟩ : ∃ x, w6.cell? ⟨g, 2 * i + j, none⟩ = some x := by
      rw [hR6.cellAt (2 * i + j) (by have := hpq.out; omega)]
      exact ⟨_, List.getElem?_eq_getElem (by have := hpq.out; simp [hvq.out]; omega)⟩
     have hSq := Aside0.mk hS
     have hKq := Aside0.mk hK2
     clear hS hK2 hR6 hKk
     refine last_ (i := 7) (N := none) (zb 8 255) rfl rfl (by kernel_rfl) (by decide) (fun K hK => ?_)
     refine skip_ (w1 := w6.setCell ⟨g, 2 * i + j, none⟩ (.string (mT U))) (by rfl) rfl (by first | (go_simp; done) | (go_simp; rfl)) ?_
     refine hK.out _ _ ?_
     clear hK K
     refine done_ (by kernel_rfl) ?_
     have hUw := hUwq.out
     have hjw := hjwq.out
     go_wp2_with fail
     clear hUw hjw
     go_roundg (2 - (j + 1))
     case measure => have := hz.out; omega
     case rel => exact ⟨j + 1, U + 1, (by first | rfl | rw [← hUwq.out]), (by first | rfl | rw [← hjwq.out]), ⟨by have := hU.out; omega⟩, ⟨rfl⟩, by omega, hSq, hKq⟩
    ·have hj1 : ((j : Int) < 2) = False := eq_false (by omega)
     have he : j = 2 := by omega
     have hUe : Aside0 (U = k + 2 * (i + 1)) := ⟨by have := hU.out; omega⟩
     have hi2 : Aside0 (i + 1 ≤ n) := ⟨by have := hiq.out; omega⟩
     have hR2 := hR.out
     have e2 : 2 * i + j = 2 * (i + 1) := by omega
     rw [e2] at hR2
     have hR3 := Aside0.mk hR2
     clear hR2 e2 he
     have hswq := Aside0.mk hsw
     go_wp2_with fail
     clear hsw
     go_roundg (n - (i + 1))
     case measure => have := hq.out; have := hiq.out; omega
     case rel => exact ⟨i + 1, U, rfl, (by first | rfl | rw [← hswq.out]), hUe, ⟨rfl⟩, hi2.out, hR3, hK⟩
  ·have hi1 : ((i : Int) < (n : Int)) = False := eq_false (by omega)
   have he : i = n := by omega
   have hR2 := hR.out
   rw [he, List.drop_of_length_le (by rw [hvq.out]; exact Nat.le_refl _), List.append_nil] at hR2
   have hTE : T = E := by rw [hT.out, he, hEq.out]
   go_wp2_with fail
   go_ret
   exact ⟨by rw [← hTE]; rfl, hR2, hK.out⟩
set_option maxHeartbeats 2000000 in
set_option maxRecDepth 100000 in
theorem heldT2 (k n : Nat) (A : Option Addr) (c : Nat) (w : World) (base : Nat) (h : w.ownsRow base 79 2 (.slice A n c) n (mV (vT k) (2 * n))) (hk : k + 2 * n ≤ 1000000000) :
  Calls Tryd.prog 49 #[.slice A n c, .int .i64 (k : Int)] w fun e w' => e = .returned (.int .i64 ((k + 2 * n : Nat) : Int)) ∧ Below w.heap.size w w' := by
 have h0 := Aside0.mk h
 have hkq := Aside0.mk hk
 obtain ⟨E, hE⟩ : ∃ E, k + 2 * n = E := ⟨_, rfl⟩
 have hEq := Aside0.mk hE
 rw [hE]
 clear h hk hE
 go_enter Tryd.func49, Tryd.ntmps49
 go_wp2_with fail
 go_loopg [1, 5] n (fun kq v1 v5 W => ∃ i T : Nat, v1 = .int .i64 (T : Int) ∧ v5 = .int .i64 (i : Int) ∧ Aside0 (T = k + 2 * i) ∧ Aside0 (kq = n - i) ∧ i ≤ n ∧ Aside0 (Below w.heap.size w W))
 case atStart => exact ⟨0, k, rfl, rfl, ⟨rfl⟩, ⟨rfl⟩, Nat.zero_le _, ⟨Below.refl _ _⟩⟩
 case round =>
  obtain ⟨i, T, rfl, rfl, hT, hq, hil, hB⟩ := hrel
  by_cases hi : i < n
  ·have hi1 : ((i : Int) < (n : Int)) = True := eq_true (by omega)
   have h0i : (0 ≤ (i : Int)) = True := eq_true (by omega)
   obtain ⟨g, rfl, hgb, _⟩ := own_g h0.out (by omega)
   have hiq := Aside0.mk hi
   have hsw : wrap64 ((i : Int) + 1) = ((i + 1 : Nat) : Int) := wrapN (by have := hkq.out; omega)
   clear hgb hi
   go_wp2_with fail
   go_loopg [1, 6] 2 (fun kz v1 v6 W => ∃ j U : Nat, v1 = .int .i64 (U : Int) ∧ v6 = .int .i64 (j : Int) ∧ Aside0 (U = k + 2 * i + j) ∧ Aside0 (kz = 2 - j) ∧ j ≤ 2 ∧ Aside0 (Below w.heap.size w W))
   case atStart => exact ⟨0, T, rfl, rfl, ⟨hT.out⟩, ⟨rfl⟩, Nat.zero_le _, hB⟩
   case round =>
    clear hB
    obtain ⟨j, U, rfl, rfl, hU, hz, hj2, hB⟩ := hrel
    by_cases hj : j < 2
    ·have hj1 : ((j : Int) < 2) = True := eq_true (by omega)
     have h0j : (0 ≤ (j : Int)) = True := eq_true (by omega)
     have hUw : wrap64 ((U : Int) + 1) = ((U + 1 : Nat) : Int) := wrapN (by have := hkq.out; have := hU.out; have := hiq.out; clear hsw; omega)
     have hjw : wrap64 ((j : Int) + 1) = ((j + 1 : Nat) : Int) := wrapN (by clear hsw hUw; omega)
     have hUwq := Aside0.mk hUw
     have hjwq := Aside0.mk hjw
     have hswq := Aside0.mk hsw
     clear hUw hjw hsw
     have hp : 2 * i + j < 2 * n := by have := hiq.out; omega
     have hR := own_move h0.out (w1 := wr) (fun b hb => hB.out.block b (own_lt h0.out b hb))
     have k2 := hR.cellAt (2 * i + j) (by omega)
     have ev : (mV (vT k) (2 * n))[2 * i + j]? = some (.string (mT U)) := by
      unfold mV
      rw [List.getElem?_map, List.getElem?_range hp]
      show some (vT k (2 * i + j)) = _
      unfold vT
      rw [hU.out, Nat.add_assoc]
     rw [ev] at k2
     have ei : i * 2 = 2 * i := Nat.mul_comm _ _
     have hUb : Aside0 (U < 1000000000000000000) := ⟨by have := hU.out; have := hkq.out; have := hiq.out; omega⟩
     have hRq := Aside0.mk hR
     have hB0 := hB
     have hpq := Aside0.mk hp
     clear hR ev hp hB
     go_wp2_with fail
     refine start_ (n := 9) (S := (fun w' => w'.cell? ⟨g, 2 * i + j, none⟩ = some (.string (mT U)))) (ds := []) (.replicate 9 false) (by kernel_rfl) rfl rfl (k2) (fun hHeld => ?_)
     refine pure_ (i := 0) (N := some 17) (v := ?_) (a' := ?_) (zb 9 1) rfl rfl (by kernel_rfl) (fun _ _ _ h => h) (Or.inl ⟨by rfl, ?_⟩) ?_ ?_
     rotate_left
     ·intro w'
      go_simp
      with_reducible rfl
     rotate_left
     ·simp only [Act.put, Za, Zb, Zc, i64_w, i32_w]
      rfl
     refine pure_ (i := 1) (N := some 18) (v := ?_) (a' := ?_) (zb 9 3) rfl rfl (by kernel_rfl) (fun _ _ _ h => h) (Or.inl ⟨by rfl, ?_⟩) ?_ ?_
     rotate_left
     ·intro w'
      go_simp
      with_reducible rfl
     rotate_left
     ·simp only [Act.put, Za, Zb, Zc, i64_w, i32_w]
      rfl
     refine pure_ (i := 2) (N := some 19) (v := ?_) (a' := ?_) (zb 9 7) rfl rfl (by kernel_rfl) (fun _ _ _ h => h) (Or.inl ⟨by rfl, ?_⟩) ?_ ?_
     rotate_left
     ·intro w'
      go_simp
      with_reducible rfl
     rotate_left
     ·simp only [Act.put, Za, Zb, Zc, i64_w, i32_w]
      rfl
     refine pure_ (i := 3) (N := some 20) (v := ?_) (a' := ?_) (zb 9 15) rfl rfl (by kernel_rfl) (fun _ _ _ h => h) (Or.inl ⟨by rfl, ?_⟩) ?_ ?_
     rotate_left
     ·intro w'
      go_simp
      with_reducible rfl
     rotate_left
     ·simp only [Act.put, Za, Zb, Zc, i64_w, i32_w]
      rfl
     refine pure_ (i := 4) (N := some 21) (v := ?_) (a' := ?_) (zb 9 31) rfl rfl (by kernel_rfl) (fun _ _ _ h => h) (Or.inl ⟨by rfl, ?_⟩) ?_ ?_
     rotate_left
     ·intro w'
      go_simp
      with_reducible rfl
     rotate_left
     ·simp only [Act.put, Za, Zb, Zc, i64_w, i32_w]
      rfl
     refine take_ (i := 5) (N := some 22) (v := ?_) (a' := ?_) (zb 9 63) rfl rfl (by kernel_rfl) (fun _ _ _ h => h) (Or.inl ⟨by rfl, ?_⟩) hHeld ?_ ?_
     rotate_left
     ·rintro w' k3
      go_simp
      with_reducible rfl
     rotate_left
     ·simp only [Act.put, Za, Zb, Zc, i64_w, i32_w]
      rfl
     refine pure_ (i := 6) (N := some 23) (v := ?_) (a' := ?_) (zb 9 127) rfl rfl (by kernel_rfl) (fun _ _ _ h => h) (Or.inl ⟨by rfl, ?_⟩) ?_ ?_
     rotate_left
     ·intro w'
      go_simp
      with_reducible rfl
     rotate_left
     ·simp only [Act.put, Za, Zb, Zc, i64_w, i32_w]
      rfl
     refine one_ (i := 7) (N := some 24) (zb 9 255) rfl rfl (by kernel_rfl) (by decide) (fun K hK => ?_)
     refine goes_ Tryd.func89 (by kernel_rfl) rfl #[.int .i64 (U : Int)] (by rfl) rfl rfl (by (try simp only [List.map_toArray, List.map_cons, List.map_nil]); first | done | rfl) ?_
     with_reducible refine (markText hUb.out _).mono ?_
     rintro e w6 ⟨rfl, hb6⟩
     refine ⟨_, rfl, ?_⟩
     have hb7 : Below wr.heap.size wr w6 := below_step (below_drew1 (Below.refl _ _)) hb6
     have hBq := Aside0.mk (below_step hB0.out hb7)
     refine hK.out _ _ ((hb7.cell (World.block_lt_of_cell? wr _ k2)).trans k2) (fun hHeld => ?_)
     clear hK K
     refine norm_ (a' := ?_) ?_ ?_
     rotate_left
     ·show Act.put _ (some 24) _ = _
      simp only [Act.put, Za, Zb, Zc, i64_w, i32_w]
      rfl
     refine pure_ (i := 8) (N := some 25) (v := ?_) (a' := ?_) (zb 9 511) rfl rfl (by kernel_rfl) (fun _ _ _ h => h) (Or.inl ⟨by rfl, ?_⟩) ?_ ?_
     rotate_left
     ·intro w'
      go_simp
      with_reducible rfl
     rotate_left
     ·simp only [Act.put, Za, Zb, Zc, i64_w, i32_w]
      rfl
     refine done_ (by kernel_rfl) ?_
     have hUw := hUwq.out
     have hjw := hjwq.out
     go_wp2_with fail
     clear hUw hjw
     go_roundg (2 - (j + 1))
     case measure => have := hz.out; omega
     case rel => exact ⟨j + 1, U + 1, (by first | rfl | rw [← hUwq.out]), (by first | rfl | rw [← hjwq.out]), ⟨by have := hU.out; omega⟩, ⟨rfl⟩, by omega, hBq⟩
    ·have hj1 : ((j : Int) < 2) = False := eq_false (by omega)
     have hUe : Aside0 (U = k + 2 * (i + 1)) := ⟨by have := hU.out; omega⟩
     have hi2 : Aside0 (i + 1 ≤ n) := ⟨by have := hiq.out; omega⟩
     have hswq := Aside0.mk hsw
     go_wp2_with fail
     clear hsw
     go_roundg (n - (i + 1))
     case measure => have := hq.out; have := hiq.out; omega
     case rel => exact ⟨i + 1, U, rfl, (by first | rfl | rw [← hswq.out]), hUe, ⟨rfl⟩, hi2.out, hB⟩
  ·have hi1 : ((i : Int) < (n : Int)) = False := eq_false (by omega)
   have he : i = n := by omega
   have hTE : T = E := by rw [hT.out, he, hEq.out]
   go_wp2_with fail
   go_ret
   exact ⟨by rw [← hTE]; rfl, hB.out⟩
end Go.Proofs.YtnjdkhnepmmfgaaDoor.Mk2
namespace Go.Proofs.YtnjdkhnepmmfgaaDoor.Mk2
set_option linter.unusedVariables false
set_option linter.unusedSimpArgs false
open Go Go.RowKit Go.Proofs.YtnjdkhnepmmfgaaDoorW.PrintWords Go.Proofs.YtnjdkhnepmmfgaaDoorW.PrintLast Go.Proofs.YtnjdkhnepmmfgaaDoorW.PrintMore Kp Mg Mk Mtx
/-- A scribe whose rows are its own, flat. -/
structure Sc (w : World) (base : Nat) (ok : Nat → Prop) (A1 : Option Addr) (c1 : Nat) (xs : List Bool) (A2 : Option Addr) (n2 c2 : Nat) (v2 : List Value) (A3 : Option Addr) (n3 c3 : Nat) (v3 : List Value) : Prop where
 r1 : Kd.R Kd.bool 4 w base ok (.slice A1 xs.length c1) xs
 o2 : w.ownsRow base 78 2 (.slice A2 n2 c2) n2 v2
 o3 : w.ownsRow base 79 2 (.slice A3 n3 c3) n3 v3
 k2 : ∀ b, (Value.slice A2 n2 c2).ownBlock = some b → ok b
 k3 : ∀ b, (Value.slice A3 n3 c3).ownBlock = some b → ok b
section
variable {w W : World} {base : Nat} {ok ok' : Nat → Prop} {A1 A2 A3 : Option Addr} {c1 n2 c2 n3 c3 : Nat} {xs : List Bool} {v2 v3 : List Value}
theorem Sc.step (h : Sc w base ok A1 c1 xs A2 n2 c2 v2 A3 n3 c3 v3) (hm : ∀ k, ok k → k < w.heap.size → W.heap[k]? = w.heap[k]?) : Sc W base ok A1 c1 xs A2 n2 c2 v2 A3 n3 c3 v3 :=
 ⟨Kd.R_step h.r1 hm, own_move h.o2 (fun b hb => hm b (h.k2 b hb) (own_lt h.o2 b hb)), own_move h.o3 (fun b hb => hm b (h.k3 b hb) (own_lt h.o3 b hb)), h.k2, h.k3⟩
theorem Sc.below (h : Sc w base ok A1 c1 xs A2 n2 c2 v2 A3 n3 c3 v3) (hb : Below w.heap.size w W) : Sc W base ok A1 c1 xs A2 n2 c2 v2 A3 n3 c3 v3 := h.step (fun k _ hk => hb.block k hk)
theorem Sc.mono (h : Sc w base ok A1 c1 xs A2 n2 c2 v2 A3 n3 c3 v3) (hk : ∀ k, ok k → ok' k) : Sc w base ok' A1 c1 xs A2 n2 c2 v2 A3 n3 c3 v3 := ⟨Kd.R_mono h.r1 hk, h.o2, h.o3, fun b hb => hk b (h.k2 b hb), fun b hb => hk b (h.k3 b hb)⟩
theorem Sc.bound (h : Sc w base ok A1 c1 xs A2 n2 c2 v2 A3 n3 c3 v3) : Sc w base (fun k => ok k ∧ base ≤ k ∧ k < w.heap.size) A1 c1 xs A2 n2 c2 v2 A3 n3 c3 v3 :=
 ⟨Kd.R_mono (Kd.R_bound h.r1) (fun k hk => ⟨hk.1, hk.2.1, hk.2.2.1⟩), h.o2, h.o3, fun b hb => ⟨h.k2 b hb, own_base h.o2 b hb, own_lt h.o2 b hb⟩, fun b hb => ⟨h.k3 b hb, own_base h.o3 b hb, own_lt h.o3 b hb⟩⟩
/-- By their types no row is another one. -/
theorem Sc.apart (h : Sc w base ok A1 c1 xs A2 n2 c2 v2 A3 n3 c3 v3) : (∀ b, (Value.slice A1 xs.length c1).ownBlock = some b → (Value.slice A2 n2 c2).ownBlock ≠ some b ∧ (Value.slice A3 n3 c3).ownBlock ≠ some b) ∧ (∀ b, (Value.slice A2 n2 c2).ownBlock = some b → (Value.slice A3 n3 c3).ownBlock ≠ some b) := by
 have t1 : ∀ b, (Value.slice A1 xs.length c1).ownBlock = some b → ∃ cells, w.heap[b]? = some (.cells cells 4 (0, 0)) := by
  obtain ⟨_, inner, ho, _⟩ := h.r1
  exact own_typed ho
 have t2 := own_typed h.o2
 have t3 := own_typed h.o3
 refine ⟨fun b hb => ⟨fun e => ?_, fun e => ?_⟩, fun b hb e => ?_⟩
 ·obtain ⟨x, hx⟩ := t1 b hb
  obtain ⟨y, hy⟩ := t2 b e
  rw [hx] at hy
  injection hy with hy
  injection hy with _ hy
  exact absurd hy (by decide)
 ·obtain ⟨x, hx⟩ := t1 b hb
  obtain ⟨y, hy⟩ := t3 b e
  rw [hx] at hy
  injection hy with hy
  injection hy with _ hy
  exact absurd hy (by decide)
 ·obtain ⟨x, hx⟩ := t2 b hb
  obtain ⟨y, hy⟩ := t3 b e
  rw [hx] at hy
  injection hy with hy
  injection hy with _ hy
  exact absurd hy (by decide)
end
set_option maxHeartbeats 2000000 in
theorem markSc (n T2 T3 T4 : Nat) (A1 : Option Addr) (c1 : Nat) (xs : List Bool) (A2 : Option Addr) (n2 c2 : Nat) (v2 : List Value) (A3 : Option Addr) (n3 c3 : Nat) (v3 : List Value) (w : World) (base : Nat) (ok : Nat → Prop) (hle : base ≤ w.heap.size) (h : Sc w base ok A1 c1 xs A2 n2 c2 v2 A3 n3 c3 v3)
  (h2 : 1 + xs.length = T2) (h3 : T2 + 2 * n2 = T3) (h4 : T3 + 2 * n3 = T4) (hk : T4 ≤ 1000000000) :
  Calls Tryd.prog 16 #[.agg #[.slice A1 xs.length c1, .slice A2 n2 c2, .slice A3 n3 c3], .int .i64 1] w fun e w' => e = .returned (.int .i64 (T4 : Int)) ∧ Sc w' base ok A1 c1 (mB 1 xs.length) A2 n2 c2 (mV (vI T2) (2 * n2)) A3 n3 c3 (mV (vT T3) (2 * n3)) ∧ KeepS base w w' ok := by
 have hP := blk_new w (.cells #[.slice A1 xs.length c1, .slice A2 n2 c2, .slice A3 n3 c3] 37)
 have hb1 : Below w.heap.size w (w.alloc (.cells #[.slice A1 xs.length c1, .slice A2 n2 c2, .slice A3 n3 c3] 37)) := below_alloc (Below.refl _ _) _
 have hs := (h.bound.below hb1).mono (ok' := fun k => ok k ∧ k < w.heap.size) (fun k hk => ⟨hk.1, hk.2.2⟩)
 have m0 : (w.alloc (.cells #[.slice A1 xs.length c1, .slice A2 n2 c2, .slice A3 n3 c3] 37)).cell? ⟨w.heap.size, 0, none⟩ = some (.slice A1 xs.length c1) := (blk_cell hP 0).trans rfl
 have hq := Aside0.mk hs
 have hbq := Aside0.mk hb1
 have hPq := Aside0.mk hP
 have hap := Aside0.mk hs.apart
 have a2 := Aside0.mk h2
 have a3 := Aside0.mk h3
 have a4 := Aside0.mk h4
 have ak := Aside0.mk hk
 have hleq := Aside0.mk hle
 clear h hs hb1 hP h2 h3 h4 hk hle
 go_enter Tryd.func16, Tryd.ntmps16
 go_wp2_with (first
  | (go_at_call 34; go_loud (
    have q : Calls Tryd.prog 34 #[.slice A1 xs.length c1, .int .i64 1] _ _ := markB 1 A1 c1 xs _ base _ (Nat.le_trans hleq.out (Below.size hbq.out)) hq.out.r1 (by have := a2.out; have := a3.out; have := a4.out; have := ak.out; omega)
    rw [a2.out] at q
    with_reducible refine q.mono ?_
    rintro e w2 ⟨rfl, hR2, hK2⟩
    have hP2 : w2.heap[w.heap.size]? = _ := (hK2.blk _ (blk_lt hPq.out) (fun e => by have := (hq.out.r1.1 _ e.symm).2; omega)).trans hPq.out
    have m1 : w2.cell? ⟨w.heap.size, 1, none⟩ = some (.slice A2 n2 c2) := (blk_cell hP2 1).trans rfl
    have hS2 := own_move hq.out.o2 (w1 := w2) (fun b hb => hK2.blk b (own_lt hq.out.o2 b hb) (fun e => (hap.out.1 b e.symm).1 hb))
    have hT2 := own_move hq.out.o3 (w1 := w2) (fun b hb => hK2.blk b (own_lt hq.out.o3 b hb) (fun e => (hap.out.1 b e.symm).2 hb))
    have hRq := Aside0.mk hR2
    have hSq := Aside0.mk hS2
    have hTq := Aside0.mk hT2
    have hK2q := Aside0.mk hK2
    have hP2q := Aside0.mk hP2
    clear hR2 hS2 hT2 hK2 hP2 q))
  | (go_at_call 46; go_loud (
    have q := markI2 T2 n2 A2 c2 v2 _ base (Nat.le_trans (Nat.le_trans hleq.out (Below.size hbq.out)) hK2q.out.size) hSq.out (by have := a3.out; have := a4.out; have := ak.out; omega)
    rw [a3.out] at q
    with_reducible refine q.mono ?_
    rintro e w3 ⟨rfl, hS3, hK3⟩
    have hP3 : w3.heap[w.heap.size]? = _ := (hK3.blk _ (blk_lt hP2q.out) (fun e => by have := (hq.out.k2 _ e.symm).2; omega)).trans hP2q.out
    have m2 : w3.cell? ⟨w.heap.size, 2, none⟩ = some (.slice A3 n3 c3) := (blk_cell hP3 2).trans rfl
    have hT3 := own_move hTq.out (w1 := w3) (fun b hb => hK3.blk b (own_lt hTq.out b hb) (fun e => hap.out.2 b e.symm hb))
    have hS3q := Aside0.mk hS3
    have hT3q := Aside0.mk hT3
    have hK3q := Aside0.mk hK3
    clear hS3 hT3 hK3 hP3 q))
  | (go_at_call 47; go_loud (
    have q := markT2 T3 n3 A3 c3 v3 _ base (Nat.le_trans (Nat.le_trans (Nat.le_trans hleq.out (Below.size hbq.out)) hK2q.out.size) hK3q.out.size) hT3q.out (by have := a4.out; have := ak.out; omega)
    rw [a4.out] at q
    with_reducible refine q.mono ?_
    rintro e w4 ⟨rfl, hT4, hK4⟩
    have hT4q := Aside0.mk hT4
    have hK4q := Aside0.mk hK4
    clear hT4 hK4 q)))
 go_ret
 refine ⟨rfl, ⟨?_, ?_, hT4q.out, fun b hb => (hq.out.k2 b hb).1, fun b hb => (hq.out.k3 b hb).1⟩, ?_⟩
 ·rw [mB_length]
  refine Kd.R_mono (Kd.R_step (w1 := w4) (Kd.R_step (w1 := w3) (Kd.R_mono (Kd.R_bound hRq.out) (ok' := fun k => (ok k ∧ k < w.heap.size) ∧ ∃ cells, w2.heap[k]? = some (.cells cells 4 (0, 0))) (fun k hk => ⟨hk.1, by
   obtain ⟨q, hq, cells, hc⟩ := hk.2.2.2
   have : q = 4 := by simpa [Kd.bool, Kd.scalar] using hq
   exact ⟨cells, by rw [← this]; exact hc⟩⟩)) (fun k hk hlt => hK3q.out.blk k hlt (fun e => ?_))) (fun k hk hlt => hK4q.out.blk k hlt (fun e => ?_))) (fun k hk => hk.1.1)
  ·obtain ⟨x, hx⟩ := hk.2
   obtain ⟨y, hy⟩ := own_typed hSq.out k e.symm
   rw [hx] at hy
   injection hy with hy
   injection hy with _ hy
   exact absurd hy (by decide)
  ·obtain ⟨x, hx⟩ := hk.2
   obtain ⟨y, hy⟩ := own_typed hTq.out k e.symm
   rw [hx] at hy
   injection hy with hy
   injection hy with _ hy
   exact absurd hy (by decide)
 ·exact own_move hS3q.out (fun b hb => hK4q.out.blk b (own_lt hS3q.out b hb) (fun e => hap.out.2 b hb e.symm))
 ·have h1 : KeepS base w (w.alloc (.cells #[.slice A1 xs.length c1, .slice A2 n2 c2, .slice A3 n3 c3] 37)) ok := (KeepS.refl w ok hleq.out).below hbq.out
  have h2 : KeepS base w w2 ok := h1.trans hK2q.out (Nat.le_refl _) (fun k hk => .inl (hq.out.r1.1 k hk.symm).1)
  have h3 : KeepS base w w3 ok := h2.trans hK3q.out (Nat.le_refl _) (fun k hk => .inl (hq.out.k2 k hk.symm).1)
  exact h3.trans hK4q.out (Nat.le_refl _) (fun k hk => .inl (hq.out.k3 k hk.symm).1)
end Go.Proofs.YtnjdkhnepmmfgaaDoor.Mk2
namespace Go.Proofs
open Go.Shelf
def Tryd.laysM171_ren : Go.Shelf.Ren := ⟨fun | 171 => 115 | 243 => 123 | 246 => 124 | 283 => 125 | 284 => 126 | 285 => 127 | 286 => 128 | 129 => 130 | 317 => 129 | 318 => 131 | 319 => 132 | 320 => 133 | 337 => 134 | 338 => 135 | n => n, fun | 3 => 3 | 9 => 9 | 2 => 2 | 4 => 4 | 171 => 151 | 0 => 0 | 53 => 152 | 37 => 132 | 5 => 5 | 173 => 155 | 212 => 158 | 51 => 159 | 20 => 20 | 213 => 160 | 46 => 125 | 232 => 163 | 233 => 164 | n => n, fun | 17 => 0 | 18 => 1 | 19 => 2 | n => n⟩
theorem Tryd.laysM171 : Go.Proofs.LaysM.n171 Tryd.prog Tryd.laysM171_ren := {
 mixed := by kernel_rfl
 f129 := Tryd.func130.trans (congrArg some (by kernel_rfl))
 f171 := Tryd.func115.trans (congrArg some (by kernel_rfl))
 f243 := Tryd.func123.trans (congrArg some (by kernel_rfl))
 f246 := Tryd.func124.trans (congrArg some (by kernel_rfl))
 f283 := Tryd.func125.trans (congrArg some (by kernel_rfl))
 f284 := Tryd.func126.trans (congrArg some (by kernel_rfl))
 f285 := Tryd.func127.trans (congrArg some (by kernel_rfl))
 f286 := Tryd.func128.trans (congrArg some (by kernel_rfl))
 f317 := Tryd.func129.trans (congrArg some (by kernel_rfl))
 f318 := Tryd.func131.trans (congrArg some (by kernel_rfl))
 f319 := Tryd.func132.trans (congrArg some (by kernel_rfl))
 f320 := Tryd.func133.trans (congrArg some (by kernel_rfl))
 f337 := Tryd.func134.trans (congrArg some (by kernel_rfl))
 f338 := Tryd.func135.trans (congrArg some (by kernel_rfl))
 t0 := Tryd.underlying0
 a0 := Tryd.isAgg0
 z0 := Tryd.sizeOf0
 v0 := Tryd.zeroValue0
 t2 := Tryd.underlying2
 a2 := Tryd.isAgg2
 z2 := Tryd.sizeOf2
 v2 := Tryd.zeroValue2
 t3 := Tryd.underlying3
 a3 := Tryd.isAgg3
 z3 := Tryd.sizeOf3
 v3 := Tryd.zeroValue3
 t4 := Tryd.underlying4
 a4 := Tryd.isAgg4
 z4 := Tryd.sizeOf4
 v4 := Tryd.zeroValue4
 t5 := Tryd.underlying5
 a5 := Tryd.isAgg5
 z5 := Tryd.sizeOf5
 v5 := Tryd.zeroValue5
 t9 := Tryd.underlying9
 a9 := Tryd.isAgg9
 z9 := Tryd.sizeOf9
 v9 := Tryd.zeroValue9
 t20 := Tryd.underlying20
 a20 := Tryd.isAgg20
 z20 := Tryd.sizeOf20
 v20 := Tryd.zeroValue20
 t37 := Tryd.underlying132
 a37 := Tryd.isAgg132
 z37 := Tryd.sizeOf132
 v37 := Tryd.zeroValue132
 t46 := Tryd.underlying125
 a46 := Tryd.isAgg125
 z46 := Tryd.sizeOf125
 v46 := Tryd.zeroValue125
 t51 := Tryd.underlying159
 a51 := Tryd.isAgg159
 z51 := Tryd.sizeOf159
 v51 := Tryd.zeroValue159
 t53 := Tryd.underlying152
 a53 := Tryd.isAgg152
 z53 := Tryd.sizeOf152
 v53 := Tryd.zeroValue152
 t171 := Tryd.underlying151
 a171 := Tryd.isAgg151
 z171 := Tryd.sizeOf151
 v171 := Tryd.zeroValue151
 t173 := Tryd.underlying155
 a173 := Tryd.isAgg155
 z173 := Tryd.sizeOf155
 v173 := Tryd.zeroValue155
 t212 := Tryd.underlying158
 a212 := Tryd.isAgg158
 z212 := Tryd.sizeOf158
 v212 := Tryd.zeroValue158
 t213 := Tryd.underlying160
 a213 := Tryd.isAgg160
 z213 := Tryd.sizeOf160
 t232 := Tryd.underlying163
 a232 := Tryd.isAgg163
 z232 := Tryd.sizeOf163
 v232 := Tryd.zeroValue163
 t233 := Tryd.underlying164
 a233 := Tryd.isAgg164
 z233 := Tryd.sizeOf164
 v233 := Tryd.zeroValue164
 g17 := by kernel_rfl
 g18 := by kernel_rfl
 g19 := by kernel_rfl
 i0 := by kernel_rfl
 i2 := by kernel_rfl
 i3 := by kernel_rfl
 i4 := by kernel_rfl
 i5 := by kernel_rfl
 i9 := by kernel_rfl
 i20 := by kernel_rfl
 i37 := by kernel_rfl
 i46 := by kernel_rfl
 i51 := by kernel_rfl
 i53 := by kernel_rfl
 i171 := by kernel_rfl
 i173 := by kernel_rfl
 i212 := by kernel_rfl
 i232 := by kernel_rfl
 i233 := by kernel_rfl
 m17 := by kernel_rfl
 m18 := by kernel_rfl
 m19 := by kernel_rfl }
open Go.RowKit Go.Sort Go.Lib in
/-- strconv.Itoa: "Itoa is equivalent to FormatInt(int64(i), 10).": i's DECIMAL NUMERAL ('Lib.itoa': a '-' where i is negative, then the digits), FOR EVERY int. The world behind the call: the world before it, new blocks behind the heap (the library's 'var a [24]byte'), draws. (LAID: no walk: one application.) -/
theorem Tryd.strconv_Itoa (n : Int) (h0 : -9223372036854775808 ≤ n) (h1 : n ≤ 9223372036854775807) (w : World) (htab : Lib.TabIs Tryd.prog w "internal/strconv.uint64pow10" .u64 Lib.pow10Tab) :
  Calls Tryd.prog 115 #[.int .i64 n] w fun e w' => e = .returned (.string ⟨(Lib.itoa n).toArray⟩) ∧ ∃ k os, w' = grow (w.drewN k) os := Any.strconv_Itoa Tryd.laysM171 n h0 h1 w htab
def Tryd.laysSlE041_f101_ren : Go.Shelf.Ren := ⟨fun | 41 => 101 | n => n, fun | 22 => 22 | 23 => 4 | 4 => 4 | n => n, fun | n => n⟩
theorem Tryd.laysSlE041_f101 : Go.Proofs.SlLaysE0.n41 Tryd.prog Tryd.laysSlE041_f101_ren := {
 mixed := by kernel_rfl
 f41 := ⟨Tryd.f101.name, by decide, Tryd.func101.trans (congrArg some (by kernel_rfl))⟩
 t4 := Tryd.underlying4
 a4 := Tryd.isAgg4
 z4 := Tryd.sizeOf4
 v4 := Tryd.zeroValue4
 t22 := Tryd.underlying22
 a22 := Tryd.isAgg22
 z22 := Tryd.sizeOf22
 v22 := Tryd.zeroValue22 }
open Go.RowKit Go.Lib in
/-- slices.Clone: "Clone returns a copy of the slice. The elements are copied using assignment, so this is a shallow clone. The result may have additional unused capacity. The result preserves the nilness of s.": OF A SLICE THAT IS NOT nil IT RETURNS A SLICE THAT IS NOT nil, OF THE SAME CELLS, IN MEMORY OF THE CALL's OWN ('ownsRow': the how-to's 6f); below the heap's size at the call all is as it was. (LAID AT THE INSTANCE 'slices.Clone[[]bool,bool]': no walk: one application.) -/
theorem Tryd.slices_Clone (i0 : TypeInfo) (z : Value) (size bytes : Nat) (hi : Tryd.prog.info? 4 = some i0) (hz0 : i0.zero = some z) (hz1 : i0.size = size) (hz2 : i0.bytes = bytes) (hzs : z.cells.size = size) (hsz : 0 < size) (z23 : ∀ w, (Go.sizeOf 4).run Tryd.prog w = .ok size w) (b off n c : Nat) (news : List Value) (w : World) (hl : news.length = n * size) (hn : n ≤ maxLen) (hbig : n * bytes ≤ 140737488355328) (hc : ∀ j u, news[j]? = some u → w.cell? ⟨b, off + j, none⟩ = some u) (h1 : ∀ u ∈ news, u.oneCell' = true) :
  Calls Tryd.prog 101 #[.slice (some ⟨b, off, none⟩) n c] w fun e w' => ∃ v', e = .returned v' ∧ w'.ownsRow w.heap.size 4 size v' n news ∧ v' ≠ .slice none 0 0 ∧ Below w.heap.size w w' := AnyE.slices_Clone Tryd.laysSlE041_f101 i0 z size bytes hi hz0 hz1 hz2 hzs hsz z23 b off n c news w hl hn hbig hc h1
open Go.RowKit Go.Lib in
theorem Tryd.cloneB (i0 : TypeInfo) (z : Value) (size bytes : Nat) (hi : Tryd.prog.info? 4 = some i0) (hz0 : i0.zero = some z) (hz1 : i0.size = size) (hz2 : i0.bytes = bytes) (hzs : z.cells.size = size) (hsz : 0 < size) (z23 : ∀ w, (Go.sizeOf 4).run Tryd.prog w = .ok size w) (b off n c : Nat) (news : List Value) (w : World) (hl : news.length = n * size) (hn : n ≤ maxLen) (hbig : n * bytes ≤ 140737488355328) (hc : ∀ j u, news[j]? = some u → w.cell? ⟨b, off + j, none⟩ = some u) (h1 : ∀ u ∈ news, u.oneCell' = true) :
  Calls Tryd.prog 101 #[.slice (some ⟨b, off, none⟩) n c] w fun e w' => ∃ v', e = .returned v' ∧ w'.ownsRow w.heap.size 4 size v' n news ∧ v' ≠ .slice none 0 0 ∧ Below w.heap.size w w' := AnyE.slices_Clone Tryd.laysSlE041_f101 i0 z size bytes hi hz0 hz1 hz2 hzs hsz z23 b off n c news w hl hn hbig hc h1
end Go.Proofs
namespace Go.Proofs.YtnjdkhnepmmfgaaDoor.It
set_option linter.unusedVariables false
set_option linter.unusedSimpArgs false
open Go.RowKit Go.Sort Go.Proofs.YtnjdkhnepmmfgaaDoorW.PrintWords Mg
/-- The library's table of the powers of ten. -/
def Glob (w : World) : Prop := Lib.TabIs Tryd.prog w "internal/strconv.uint64pow10" .u64 Lib.pow10Tab
theorem glob_below (w w' : World) (h : Glob w) (hb : Below w.heap.size w w') : Glob w' := Lib.tabBelow_of_tabIs h w' hb
theorem below_grow (w : World) (k : Nat) (os : Array Obj) : Below w.heap.size w (grow (w.drewN k) os) :=
 ⟨rfl, rfl, rfl, by simp [grow], fun i hi => by simp [grow, Array.getElem?_append_left hi]⟩
def T (n : Nat) : ByteArray := if n ≤ 1000000 then ⟨(Lib.decDigits n).toArray⟩ else ⟨#[]⟩
theorem T_eq {n : Nat} (h : n ≤ 1000000) : T n = ⟨(Lib.decDigits n).toArray⟩ := if_pos h
theorem itoa (W : World) (n : Nat) (hG : Glob W) (hn : n ≤ 1000000) : Calls Tryd.prog 115 #[.int .i64 (n : Int)] W fun e W' => e = .returned (.string (T n)) ∧ Below W.heap.size W W' := by
 refine Calls.mono (Tryd.strconv_Itoa (n : Int) (by omega) (by omega) W hG) ?_
 rintro e w' ⟨rfl, k, os, rfl⟩
 refine ⟨?_, below_grow _ _ _⟩
 rw [T_eq hn]
 have e0 : ¬ ((n : Int) < 0) := by omega
 simp [Lib.itoa, e0]
theorem nDigits_le : ∀ (k u : Nat), u < 10 ^ (k + 1) → Lib.nDigits u ≤ k + 1
 | 0, u, h => by rw [Lib.nDigits_small (by simpa using h)]; exact Nat.le_refl _
 | k + 1, u, h => by
  by_cases hu : u < 10
  ·rw [Lib.nDigits_small hu]; omega
  ·rw [Lib.nDigits_big hu]
   have := nDigits_le k (u / 10) (by rw [Nat.pow_succ] at h; omega)
   omega
theorem T_size (n : Nat) : (T n).size ≤ 20 := by
 unfold T
 split
 ·show (Lib.decDigits n).toArray.size ≤ 20
  rw [List.size_toArray, Lib.decDigits_length]
  have := nDigits_le 6 n (by omega)
  omega
 ·exact Nat.zero_le _
def val (l : List UInt8) : Nat := l.foldl (fun a c => a * 10 + (c.toNat - 48)) 0
theorem val_dec (n : Nat) : val (Lib.decDigits n) = n := by
 induction n using Nat.strongRecOn with
 | _ n ih =>
  by_cases h : n < 10
  ·rw [Lib.decDigits, dif_pos h]
   simp [val, UInt8.toNat_ofNat']
   omega
  ·rw [Lib.decDigits, dif_neg h]
   have := ih (n / 10) (by omega)
   unfold val at this ⊢
   rw [List.foldl_append, this]
   simp [UInt8.toNat_ofNat']
   omega
theorem dec_not (n : Nat) : ∀ c ∈ Lib.decDigits n, c ≠ 44 := by
 induction n using Nat.strongRecOn with
 | _ n ih =>
  have h0 : ∀ d, d < 10 → UInt8.ofNat (48 + d) ≠ 44 := by decide
  by_cases h : n < 10
  ·rw [Lib.decDigits, dif_pos h]
   intro c hc
   rw [List.mem_singleton.1 hc]
   exact h0 n h
  ·rw [Lib.decDigits, dif_neg h]
   intro c hc
   rcases List.mem_append.1 hc with hc | hc
   ·exact ih (n / 10) (by omega) c hc
   ·rw [List.mem_singleton.1 hc]
    exact h0 _ (Nat.mod_lt _ (by omega))
def rest (l : List Nat) : List UInt8 := l.flatMap (fun m => 44 :: Lib.decDigits m)
theorem key_list (s : ByteArray) : ∀ l : List Nat, (∀ x ∈ l, x ≤ 1000000) → (keyF T s l).data.toList = s.data.toList ++ rest l := by
 intro l
 induction l generalizing s with
 | nil => intro _; simp [keyF, rest]
 | cons m l ih =>
  intro h
  have e : keyF T s (m :: l) = keyF T (s ++ (⟨#[44]⟩ ++ T m)) l := rfl
  rw [e, ih _ (fun x hx => h x (List.mem_cons_of_mem _ hx)), T_eq (h m (List.mem_cons_self ..))]
  simp [rest, ByteArray.data_append]
theorem cut {a b x y : List UInt8} (ha : ∀ c ∈ a, c ≠ 44) (hb : ∀ c ∈ b, c ≠ 44) (hx : x = [] ∨ ∃ r, x = 44 :: r) (hy : y = [] ∨ ∃ r, y = 44 :: r) (h : a ++ x = b ++ y) : a = b ∧ x = y := by
 induction a generalizing b with
 | nil =>
  cases b with
  | nil => exact ⟨rfl, h⟩
  | cons c b =>
   rcases hx with rfl | ⟨r, rfl⟩
   ·cases h
   ·simp only [List.nil_append, List.cons_append, List.cons.injEq] at h
    exact absurd h.1.symm (hb c (List.mem_cons_self ..))
 | cons c a ih =>
  cases b with
  | nil =>
   rcases hy with rfl | ⟨r, rfl⟩
   ·cases h
   ·simp only [List.nil_append, List.cons_append, List.cons.injEq] at h
    exact absurd h.1 (ha c (List.mem_cons_self ..))
  | cons c' b =>
   simp only [List.cons_append, List.cons.injEq] at h
   obtain ⟨h1, h2⟩ := ih (fun x hx => ha x (List.mem_cons_of_mem _ hx)) (fun x hx => hb x (List.mem_cons_of_mem _ hx)) h.2
   exact ⟨by rw [h.1, h1], h2⟩
theorem rest_form (l : List Nat) : rest l = [] ∨ ∃ r, rest l = 44 :: r := by
 cases l with
 | nil => exact .inl rfl
 | cons m l => exact .inr ⟨_, rfl⟩
theorem rest_inj : ∀ a b : List Nat, rest a = rest b → a = b
 | [], [], _ => rfl
 | [], m :: b, h => by simp [rest] at h
 | m :: a, [], h => by simp [rest] at h
 | m :: a, n :: b, h => by
  have e : ∀ (m : Nat) (a : List Nat), rest (m :: a) = 44 :: (Lib.decDigits m ++ rest a) := fun m a => by simp [rest]
  rw [e, e, List.cons.injEq] at h
  obtain ⟨h1, h2⟩ := cut (dec_not m) (dec_not n) (rest_form a) (rest_form b) h.2
  rw [rest_inj a b h2, ← val_dec m, h1, val_dec]
theorem inj (a b : List Nat) (ha : a ≠ []) (hb : b ≠ []) (hla : ∀ x ∈ a, x ≤ 1000000) (hlb : ∀ x ∈ b, x ≤ 1000000) (h : keyB T a = keyB T b) : a = b := by
 cases a with
 | nil => exact absurd rfl ha
 | cons m a =>
  cases b with
  | nil => exact absurd rfl hb
  | cons n b =>
   have h2 : (keyF T (T m) a).data.toList = (keyF T (T n) b).data.toList := by
    have : keyF T (T m) a = keyF T (T n) b := h
    rw [this]
   rw [key_list _ a (fun x hx => hla x (List.mem_cons_of_mem _ hx)), key_list _ b (fun x hx => hlb x (List.mem_cons_of_mem _ hx)), T_eq (hla m (List.mem_cons_self ..)), T_eq (hlb n (List.mem_cons_self ..))] at h2
   obtain ⟨h3, h4⟩ := cut (by simpa using dec_not m) (by simpa using dec_not n) (rest_form a) (rest_form b) h2
   have h5 : Lib.decDigits m = Lib.decDigits n := by simpa using h3
   rw [rest_inj a b h4, ← val_dec m, h5, val_dec]
end Go.Proofs.YtnjdkhnepmmfgaaDoor.It
namespace Go.Proofs.YtnjdkhnepmmfgaaDoor.Td
set_option linter.unusedVariables false
set_option linter.unusedSimpArgs false
open Go.RowKit Go.Proofs.YtnjdkhnepmmfgaaDoorW.PrintWords Go.Proofs.YtnjdkhnepmmfgaaDoorW.PrintLast Go.Proofs.YtnjdkhnepmmfgaaDoorW.PrintMore Mp Kp Ky Fv Tdy Cl Mg
set_option maxHeartbeats 8000000 in
set_option maxRecDepth 100000 in
theorem tidy (T : Nat → ByteArray) (hT : ∀ n, (T n).size ≤ 20) (GI : World → Prop) (hGI : ∀ W W', GI W → Below W.heap.size W W' → GI W')
  (hItoa : ∀ W (n : Nat), GI W → n ≤ 1000000 → Calls Tryd.prog 115 #[.int .i64 (n : Int)] W fun e W' => e = .returned (.string (T n)) ∧ Below W.heap.size W W')
  (hinj : ∀ a b : List Nat, a ≠ [] → b ≠ [] → (∀ x ∈ a, x ≤ 1000000) → (∀ x ∈ b, x ≤ 1000000) → keyB T a = keyB T b → a = b)
  (tapes : Nat) (htp : tapes ≤ 3) (start : Nat) (accs : List Bool) (rows : List (List Nat)) (wd : Nat) (hwd1 : 0 < wd) (hwd2 : wd ≤ 30) (hcl : Closed wd rows accs) (hn : rows.length ≤ 100000) (hst : start < rows.length)
  (hwd : ∀ W, Calls Tryd.prog 94 #[.int .i64 tapes] W fun e W' => e = .returned (.int .i64 wd) ∧ Below W.heap.size W W')
  (dig : Nat → List Nat) (hdl : ∀ c, c < wd → (dig c).length = tapes) (hds : ∀ c, c < wd → ∀ d ∈ dig c, d < 3)
  (hdig : ∀ W c, c < wd → Calls Tryd.prog 62 #[.int .i64 tapes, .int .i64 (c : Int)] W fun e W' => ∃ v, e = .returned v ∧ Kd.R (Kd.int .i64) 3 W' W.heap.size (fun _ => True) v (ints (dig c)) ∧ Below W.heap.size W W')
  (w : World) (hG : GI w) (AA : Option Addr) (ca : Nat) (AN : Option Addr) (cn : Nat) (hA : Kd.C Kd.bool w AA accs.length accs) (hN : Kd.C (Kd.slice 3 (Kd.int .i64)) w AN rows.length (rows.map ints)) (hca : accs.length ≤ ca) (hcn : rows.length ≤ cn) (bs : List Bool) (rws : List (List Nat)) (ht : Tidied wd rows accs start (padOf dig) bs rws) :
  Calls Tryd.prog 84 #[.agg #[.int .i64 tapes, .int .i64 start, .slice AA accs.length ca, .slice AN rows.length cn]] w fun e w' => ∃ vA vN, e = .returned (.agg #[.int .i64 tapes, .int .i64 0, vA, vN]) ∧
   Kd.R Kd.bool 4 w' w.heap.size (fun _ => True) vA bs ∧ Kd.R (Kd.slice 3 (Kd.int .i64)) 87 w' w.heap.size (fun _ => True) vN (rws.map ints) ∧ Below w.heap.size w w' := by
 have hte := Aside0.mk ht.is
 clear ht
 go_enter Tryd.func84, Tryd.ntmps84
 go_wp2_with (first
  | (go_at_call 94; go_loud (with_reducible refine (hwd _).mono ?_); rintro e w1 ⟨rfl, hb1⟩; have bM1 := blk_below (blk_alloc (blk_new w (.cells #[.int .i64 (tapes : Int), .int .i64 (start : Int), .slice AA accs.length ca, .slice AN rows.length cn] 66)) (.cells #[.int .i64 0, .int .i64 0, .slice none 0 0, .slice none 0 0] 66)) hb1; have bR1 := blk_below (blk_at (w.alloc (.cells #[.int .i64 (tapes : Int), .int .i64 (start : Int), .slice AA accs.length ca, .slice AN rows.length cn] 66)) (.cells #[.int .i64 0, .int .i64 0, .slice none 0 0, .slice none 0 0] 66) (w.heap.size + 1) (by simp)) hb1; have hB1 := below_step (below_alloc (below_alloc (Below.refl _ _) _) _) hb1)
  | ((with_reducible refine gate_dst (N := 12) rfl ?_); go_loud (refine Kd.R_make (Kd.int .i64) (w0 := w) w.heap.size 3 rfl (N := 12) rfl 87 _ _ rfl (wd : Int) rfl rfl Tryd.underlying87 (.int .i64 0) 8 GwI.info_int rfl (by decide) (by decide) (0 : Int) (ok := fun _ => True) (okp := fun _ => False) rfl (fun _ h => h.elim) trivial (by omega) (by simp; omega) hB1 (Below.size hB1) ?_; intro v2 w2 hR2 hb2 hg2 hn2; simp only [Int.toNat_natCast] at hR2; obtain ⟨gr, cr, hv2, hgr, hgl, _⟩ := Kd.R_form hR2 (by simp; omega); subst hv2; rw [List.length_replicate] at hR2; have M2 : M w tapes start AA accs.length ca AN rows.length cn w2.heap.size (.slice (some ⟨gr, 0, none⟩) wd cr) (List.replicate wd 0) none (w2.alloc (.cells #[.slice (some ⟨gr, 0, none⟩) wd cr] 87)) := ⟨blk_alloc ((Keep.grown hg2).obj bM1 (by simp)) _, blk_alloc ((Keep.grown hg2).obj bR1 (by simp)) _, blk_new _ _, (by rw [ints_replicate]; exact Kd.R_mono (Kd.R_below hR2 (below_alloc (Below.refl _ _) _)) (fun _ _ => ⟨trivial, by simp⟩)), below_alloc hb2 _⟩; clear bM1 bR1 hR2 hn2 hg2 hb2 hB1)))
 have hws : Aside0 (w.heap.size ≤ w2.heap.size) := ⟨by have := M2.lt; have := M2.bel.size; omega⟩
 go_loopg [15] wd (fun kq v15 wr => ∃ (c : Nat), v15 = .int .i64 (c : Int) ∧ Aside0 (kq = wd - c) ∧ c ≤ wd ∧ Aside0 (M w tapes start AA accs.length ca AN rows.length cn w2.heap.size (.slice (some ⟨gr, 0, none⟩) wd cr) (padsTo dig wd c) none wr))
 case atStart => exact ⟨0, rfl, ⟨by simp⟩, Nat.zero_le _, ⟨by simpa [padsTo] using M2⟩⟩
 case round =>
  clear M2
  obtain ⟨wo, rfl⟩ : ∃ wo : World, wo = wr := ⟨_, rfl⟩
  obtain ⟨c, rfl, hkq, hcw, hM⟩ := hrel
  replace hM := hM.out
  by_cases hlt : c < wd
  ·have c0 : wo.cell? ⟨w.heap.size, 0, none⟩ = some (.int .i64 (tapes : Int)) := (blk_cell hM.bM 0).trans rfl
   have hlt1 : ((c : Int) < (wd : Int)) = True := eq_true (by omega)
   go_wp2_with (go_at_call 62; go_loud (with_reducible refine (hdig _ c hlt).mono ?_); rintro e w3 ⟨v3, rfl, hR3, hb3⟩; obtain ⟨A3, c3, hv3⟩ := Kd.R_slice hR3; subst hv3; rw [ints_length, hdl c hlt] at hR3 ⊢; have h3 := hM.step hb3)
   obtain ⟨hbp, cells, hcp⟩ := row_blk hM.grp (by rw [ints_length, padsTo_at dig hlt, padsAt_length dig hlt]; omega)
   have hgl2 := blk_lt hcp
   have hR4 : Kd.R (Kd.int .i64) 3 w3 wo.heap.size (fun k => True ∧ some k ≠ some gr) (.slice A3 tapes c3) (ints (dig c)) := Kd.R_mono (Kd.R_bound hR3) (fun k hk => ⟨trivial, fun e => by cases e; have := hk.2.1; omega⟩)
   rw [padsTo_at dig hlt] at h3
   clear hR3 hcp cells c0 hgl2
   have hdc := Aside0.mk (hdl c hlt)
   have hdd := Aside0.mk (hds c hlt)
   go_loopg [23] tapes (fun kq v23 wq => ∃ (t p : Nat), v23 = .int .i64 (t : Int) ∧ Aside0 (kq = tapes - t) ∧ t ≤ tapes ∧ p < 8 ∧ Aside0 (padsF p t ((dig c).drop t) = padOf dig c) ∧ Aside0 (Kd.R (Kd.int .i64) 3 wq wo.heap.size (fun k => True ∧ some k ≠ some gr) (.slice A3 tapes c3) (ints (dig c))) ∧ Aside0 (M w tapes start AA accs.length ca AN rows.length cn w2.heap.size (.slice (some ⟨gr, 0, none⟩) wd cr) (padsAt dig wd c p) none wq))
   case atStart => exact ⟨0, 0, rfl, ⟨by simp⟩, Nat.zero_le _, by omega, ⟨rfl⟩, ⟨hR4⟩, ⟨h3⟩⟩
   case round =>
    clear h3 hR4 hb3
    obtain ⟨t, p, rfl, hkt, htt, hp8, HP, hD, hQ⟩ := hrel
    replace hD := hD.out
    replace hQ := hQ.out
    by_cases htl : t < tapes
    ·have hdc2 := hdc.out
     obtain ⟨ad, rfl, k1⟩ := num_at' hD (i := t) (by omega)
     have hdt := hdd.out _ (List.getElem_mem (show t < (dig c).length by omega))
     have HP2 := HP.out
     rw [List.drop_eq_getElem_cons (show t < (dig c).length by omega), padsF] at HP2
     have HP3 := Aside0.mk HP2
     clear HP2 HP
     generalize (dig c)[t]'(by omega) = d at *
     clear hdc2
     have hlt1 : ((t : Int) < (tapes : Int)) = True := eq_true (by omega)
     have h0t : (0 ≤ (t : Int)) = True := eq_true (by omega)
     have hdl2 : d < 3 := hdt
     by_cases hd2 : d = 2
     ·subst d
      have hpl : (padsAt dig wd c p).length = wd := padsAt_length dig hlt
      have k2 := num_at hQ.grp (i := c) (by omega)
      rw [padsAt_get dig (by omega)] at k2
      obtain ⟨hbp2, cells, hcp⟩ := row_blk hQ.grp (by rw [ints_length, hpl]; omega)
      have f2 : wr.frozen? ⟨gr, c, none⟩ = false := blk_frozen hcp c
      have cG : wr.cell? ⟨w2.heap.size, 0, none⟩ = some (.slice (some ⟨gr, 0, none⟩) wd cr) := (blk_cell hQ.bG 0).trans rfl
      have hcw1 : ((c : Int) < (wd : Int)) = True := eq_true (by omega)
      have h0c : (0 ≤ (c : Int)) = True := eq_true (by omega)
      clear hpl hcp cells hdt hdl2
      have htr : t = 0 ∨ t = 1 ∨ t = 2 := by omega
      go_wp2_with fail
      rcases htr with rfl | rfl | rfl
      ·have hor : bits .or .i64 (p : Int) 1 = ((p ||| 1 : Nat) : Int) ∧ p ||| 1 < 8 := or_fact 0 (by omega) p hp8
       have hor1 : bits .or .i64 (p : Int) (wrap64 1) = ((p ||| 1 : Nat) : Int) := by rw [show wrap64 1 = 1 from by kernel_rfl]; exact hor.1
       refine start_ (n := 9) (S := fun w' => w'.cell? ⟨w2.heap.size, 0, none⟩ = some (.slice (some ⟨gr, 0, none⟩) wd cr) ∧ w'.cell? ⟨gr, c, none⟩ = some (.int .i64 (p : Int))) (ds := [8]) (.replicate 9 false) (by kernel_rfl) rfl rfl (⟨cG, k2⟩) (fun hHeld => ?_)
       refine pure_ (i := 1) (N := some 31) (v := ?_) (a' := ?_) (zb 9 2) rfl rfl (by kernel_rfl) (fun _ _ _ h => h) (Or.inl ⟨by rfl, ?_⟩) ?_ ?_
       rotate_left
       ·intro w'
        go_simp
        with_reducible rfl
       rotate_left
       ·simp only [Act.put, Za, Zb, Zc, i64_w, i32_w]
        rfl
       refine pure_ (i := 4) (N := some 34) (v := ?_) (a' := ?_) (zb 9 18) rfl rfl (by kernel_rfl) (fun _ _ _ h => h) (Or.inl ⟨by rfl, ?_⟩) ?_ ?_
       rotate_left
       ·intro w'
        go_simp
        with_reducible rfl
       rotate_left
       ·simp only [Act.put, Za, Zb, Zc, i64_w, i32_w]
        rfl
       refine pure_ (i := 5) (N := some 35) (v := ?_) (a' := ?_) (zb 9 50) rfl rfl (by kernel_rfl) (fun _ _ _ h => h) (Or.inl ⟨by rfl, ?_⟩) ?_ ?_
       rotate_left
       ·intro w'
        go_simp
        with_reducible rfl
       rotate_left
       ·simp only [Act.put, Za, Zb, Zc, i64_w, i32_w]
        rfl
       refine take_ (i := 0) (N := some 30) (v := ?_) (a' := ?_) (zb 9 51) rfl rfl (by kernel_rfl) (fun _ _ _ h => h) (Or.inl ⟨by rfl, ?_⟩) hHeld ?_ ?_
       rotate_left
       ·rintro w' ⟨s1, s2⟩
        go_simp
        with_reducible rfl
       rotate_left
       ·simp only [Act.put, Za, Zb, Zc, i64_w, i32_w]
        rfl
       refine pure_ (i := 2) (N := some 32) (v := ?_) (a' := ?_) (zb 9 55) rfl rfl (by kernel_rfl) (fun _ _ _ h => h) (Or.inl ⟨by rfl, ?_⟩) ?_ ?_
       rotate_left
       ·intro w'
        go_simp
        with_reducible rfl
       rotate_left
       ·simp only [Act.put, Za, Zb, Zc, i64_w, i32_w]
        rfl
       refine take_ (i := 3) (N := some 33) (v := ?_) (a' := ?_) (zb 9 63) rfl rfl (by kernel_rfl) (fun _ _ _ h => h) (Or.inl ⟨by rfl, ?_⟩) hHeld ?_ ?_
       rotate_left
       ·rintro w' ⟨s1, s2⟩
        go_simp
        with_reducible rfl
       rotate_left
       ·simp only [Act.put, Za, Zb, Zc, i64_w, i32_w]
        rfl
       refine pure_ (i := 6) (N := some 36) (v := ?_) (a' := ?_) (zb 9 127) rfl rfl (by kernel_rfl) (fun _ _ _ h => h) (Or.inl ⟨by rfl, ?_⟩) ?_ ?_
       rotate_left
       ·intro w'
        go_simp
        with_reducible rfl
       rotate_left
       ·simp only [Act.put, Za, Zb, Zc, i64_w, i32_w]
        rfl
       refine pure_ (i := 7) (N := some 37) (v := ?_) (a' := ?_) (zb 9 255) rfl rfl (by kernel_rfl) (fun _ _ _ h => h) (Or.inl ⟨by rfl, ?_⟩) ?_ ?_
       rotate_left
       ·intro w'
        go_simp
        with_reducible rfl
       rotate_left
       ·simp only [Act.put, Za, Zb, Zc, i64_w, i32_w]
        rfl
       have hq1 := hHeld.2
       have hf1 : wr.drew.frozen? ⟨gr, c, none⟩ = false := f2
       refine last_ (i := 8) (N := none) (zb 9 511) rfl rfl (by kernel_rfl) (by decide) (fun K hK => ?_)
       refine skip_ (w1 := wr.drew.setCell ⟨gr, c, none⟩ (.int .i64 ((p ||| 1 : Nat) : Int))) (by rfl) rfl (by first | (go_simp; done) | (go_simp; rfl)) ?_
       refine hK.out _ _ ?_
       clear hK K
       refine done_ (by kernel_rfl) ?_
       have hM5 := (hQ.step (below_drew1 (Below.refl _ _))).put hbp2 c (p ||| 1)
       rw [padsAt_set] at hM5
       have hD5 := R_apart (Kd.R_below hD (below_drew1 (Below.refl _ _))) (Keep.set wr.drew ⟨gr, c, none⟩ (.int .i64 ((p ||| 1 : Nat) : Int)))
       go_wp2_with fail
       go_roundg (tapes - (0 + 1))
       case measure => have := hkt.out; omega
       case rel => exact ⟨1, p ||| 1, (by go_num), ⟨by simp⟩, by omega, hor.2, ⟨by have := HP3.out; rw [if_pos trivial] at this; exact this⟩, ⟨hD5⟩, ⟨hM5⟩⟩
      ·have hor : bits .or .i64 (p : Int) 2 = ((p ||| 2 : Nat) : Int) ∧ p ||| 2 < 8 := or_fact 1 (by omega) p hp8
       have hor1 : bits .or .i64 (p : Int) (wrap64 2) = ((p ||| 2 : Nat) : Int) := by rw [show wrap64 2 = 2 from by kernel_rfl]; exact hor.1
       refine start_ (n := 9) (S := fun w' => w'.cell? ⟨w2.heap.size, 0, none⟩ = some (.slice (some ⟨gr, 0, none⟩) wd cr) ∧ w'.cell? ⟨gr, c, none⟩ = some (.int .i64 (p : Int))) (ds := [8]) (.replicate 9 false) (by kernel_rfl) rfl rfl (⟨cG, k2⟩) (fun hHeld => ?_)
       refine pure_ (i := 1) (N := some 31) (v := ?_) (a' := ?_) (zb 9 2) rfl rfl (by kernel_rfl) (fun _ _ _ h => h) (Or.inl ⟨by rfl, ?_⟩) ?_ ?_
       rotate_left
       ·intro w'
        go_simp
        with_reducible rfl
       rotate_left
       ·simp only [Act.put, Za, Zb, Zc, i64_w, i32_w]
        rfl
       refine pure_ (i := 4) (N := some 34) (v := ?_) (a' := ?_) (zb 9 18) rfl rfl (by kernel_rfl) (fun _ _ _ h => h) (Or.inl ⟨by rfl, ?_⟩) ?_ ?_
       rotate_left
       ·intro w'
        go_simp
        with_reducible rfl
       rotate_left
       ·simp only [Act.put, Za, Zb, Zc, i64_w, i32_w]
        rfl
       refine pure_ (i := 5) (N := some 35) (v := ?_) (a' := ?_) (zb 9 50) rfl rfl (by kernel_rfl) (fun _ _ _ h => h) (Or.inl ⟨by rfl, ?_⟩) ?_ ?_
       rotate_left
       ·intro w'
        go_simp
        with_reducible rfl
       rotate_left
       ·simp only [Act.put, Za, Zb, Zc, i64_w, i32_w]
        rfl
       refine take_ (i := 0) (N := some 30) (v := ?_) (a' := ?_) (zb 9 51) rfl rfl (by kernel_rfl) (fun _ _ _ h => h) (Or.inl ⟨by rfl, ?_⟩) hHeld ?_ ?_
       rotate_left
       ·rintro w' ⟨s1, s2⟩
        go_simp
        with_reducible rfl
       rotate_left
       ·simp only [Act.put, Za, Zb, Zc, i64_w, i32_w]
        rfl
       refine pure_ (i := 2) (N := some 32) (v := ?_) (a' := ?_) (zb 9 55) rfl rfl (by kernel_rfl) (fun _ _ _ h => h) (Or.inl ⟨by rfl, ?_⟩) ?_ ?_
       rotate_left
       ·intro w'
        go_simp
        with_reducible rfl
       rotate_left
       ·simp only [Act.put, Za, Zb, Zc, i64_w, i32_w]
        rfl
       refine take_ (i := 3) (N := some 33) (v := ?_) (a' := ?_) (zb 9 63) rfl rfl (by kernel_rfl) (fun _ _ _ h => h) (Or.inl ⟨by rfl, ?_⟩) hHeld ?_ ?_
       rotate_left
       ·rintro w' ⟨s1, s2⟩
        go_simp
        with_reducible rfl
       rotate_left
       ·simp only [Act.put, Za, Zb, Zc, i64_w, i32_w]
        rfl
       refine pure_ (i := 6) (N := some 36) (v := ?_) (a' := ?_) (zb 9 127) rfl rfl (by kernel_rfl) (fun _ _ _ h => h) (Or.inl ⟨by rfl, ?_⟩) ?_ ?_
       rotate_left
       ·intro w'
        go_simp
        with_reducible rfl
       rotate_left
       ·simp only [Act.put, Za, Zb, Zc, i64_w, i32_w]
        rfl
       refine pure_ (i := 7) (N := some 37) (v := ?_) (a' := ?_) (zb 9 255) rfl rfl (by kernel_rfl) (fun _ _ _ h => h) (Or.inl ⟨by rfl, ?_⟩) ?_ ?_
       rotate_left
       ·intro w'
        go_simp
        with_reducible rfl
       rotate_left
       ·simp only [Act.put, Za, Zb, Zc, i64_w, i32_w]
        rfl
       have hq1 := hHeld.2
       have hf1 : wr.drew.frozen? ⟨gr, c, none⟩ = false := f2
       refine last_ (i := 8) (N := none) (zb 9 511) rfl rfl (by kernel_rfl) (by decide) (fun K hK => ?_)
       refine skip_ (w1 := wr.drew.setCell ⟨gr, c, none⟩ (.int .i64 ((p ||| 2 : Nat) : Int))) (by rfl) rfl (by first | (go_simp; done) | (go_simp; rfl)) ?_
       refine hK.out _ _ ?_
       clear hK K
       refine done_ (by kernel_rfl) ?_
       have hM5 := (hQ.step (below_drew1 (Below.refl _ _))).put hbp2 c (p ||| 2)
       rw [padsAt_set] at hM5
       have hD5 := R_apart (Kd.R_below hD (below_drew1 (Below.refl _ _))) (Keep.set wr.drew ⟨gr, c, none⟩ (.int .i64 ((p ||| 2 : Nat) : Int)))
       go_wp2_with fail
       go_roundg (tapes - (1 + 1))
       case measure => have := hkt.out; omega
       case rel => exact ⟨2, p ||| 2, (by go_num), ⟨by simp⟩, by omega, hor.2, ⟨by have := HP3.out; rw [if_pos trivial] at this; exact this⟩, ⟨hD5⟩, ⟨hM5⟩⟩
      ·have hor : bits .or .i64 (p : Int) 4 = ((p ||| 4 : Nat) : Int) ∧ p ||| 4 < 8 := or_fact 2 (by omega) p hp8
       have hor1 : bits .or .i64 (p : Int) (wrap64 4) = ((p ||| 4 : Nat) : Int) := by rw [show wrap64 4 = 4 from by kernel_rfl]; exact hor.1
       refine start_ (n := 9) (S := fun w' => w'.cell? ⟨w2.heap.size, 0, none⟩ = some (.slice (some ⟨gr, 0, none⟩) wd cr) ∧ w'.cell? ⟨gr, c, none⟩ = some (.int .i64 (p : Int))) (ds := [8]) (.replicate 9 false) (by kernel_rfl) rfl rfl (⟨cG, k2⟩) (fun hHeld => ?_)
       refine pure_ (i := 1) (N := some 31) (v := ?_) (a' := ?_) (zb 9 2) rfl rfl (by kernel_rfl) (fun _ _ _ h => h) (Or.inl ⟨by rfl, ?_⟩) ?_ ?_
       rotate_left
       ·intro w'
        go_simp
        with_reducible rfl
       rotate_left
       ·simp only [Act.put, Za, Zb, Zc, i64_w, i32_w]
        rfl
       refine pure_ (i := 4) (N := some 34) (v := ?_) (a' := ?_) (zb 9 18) rfl rfl (by kernel_rfl) (fun _ _ _ h => h) (Or.inl ⟨by rfl, ?_⟩) ?_ ?_
       rotate_left
       ·intro w'
        go_simp
        with_reducible rfl
       rotate_left
       ·simp only [Act.put, Za, Zb, Zc, i64_w, i32_w]
        rfl
       refine pure_ (i := 5) (N := some 35) (v := ?_) (a' := ?_) (zb 9 50) rfl rfl (by kernel_rfl) (fun _ _ _ h => h) (Or.inl ⟨by rfl, ?_⟩) ?_ ?_
       rotate_left
       ·intro w'
        go_simp
        with_reducible rfl
       rotate_left
       ·simp only [Act.put, Za, Zb, Zc, i64_w, i32_w]
        rfl
       refine take_ (i := 0) (N := some 30) (v := ?_) (a' := ?_) (zb 9 51) rfl rfl (by kernel_rfl) (fun _ _ _ h => h) (Or.inl ⟨by rfl, ?_⟩) hHeld ?_ ?_
       rotate_left
       ·rintro w' ⟨s1, s2⟩
        go_simp
        with_reducible rfl
       rotate_left
       ·simp only [Act.put, Za, Zb, Zc, i64_w, i32_w]
        rfl
       refine pure_ (i := 2) (N := some 32) (v := ?_) (a' := ?_) (zb 9 55) rfl rfl (by kernel_rfl) (fun _ _ _ h => h) (Or.inl ⟨by rfl, ?_⟩) ?_ ?_
       rotate_left
       ·intro w'
        go_simp
        with_reducible rfl
       rotate_left
       ·simp only [Act.put, Za, Zb, Zc, i64_w, i32_w]
        rfl
       refine take_ (i := 3) (N := some 33) (v := ?_) (a' := ?_) (zb 9 63) rfl rfl (by kernel_rfl) (fun _ _ _ h => h) (Or.inl ⟨by rfl, ?_⟩) hHeld ?_ ?_
       rotate_left
       ·rintro w' ⟨s1, s2⟩
        go_simp
        with_reducible rfl
       rotate_left
       ·simp only [Act.put, Za, Zb, Zc, i64_w, i32_w]
        rfl
       refine pure_ (i := 6) (N := some 36) (v := ?_) (a' := ?_) (zb 9 127) rfl rfl (by kernel_rfl) (fun _ _ _ h => h) (Or.inl ⟨by rfl, ?_⟩) ?_ ?_
       rotate_left
       ·intro w'
        go_simp
        with_reducible rfl
       rotate_left
       ·simp only [Act.put, Za, Zb, Zc, i64_w, i32_w]
        rfl
       refine pure_ (i := 7) (N := some 37) (v := ?_) (a' := ?_) (zb 9 255) rfl rfl (by kernel_rfl) (fun _ _ _ h => h) (Or.inl ⟨by rfl, ?_⟩) ?_ ?_
       rotate_left
       ·intro w'
        go_simp
        with_reducible rfl
       rotate_left
       ·simp only [Act.put, Za, Zb, Zc, i64_w, i32_w]
        rfl
       have hq1 := hHeld.2
       have hf1 : wr.drew.frozen? ⟨gr, c, none⟩ = false := f2
       refine last_ (i := 8) (N := none) (zb 9 511) rfl rfl (by kernel_rfl) (by decide) (fun K hK => ?_)
       refine skip_ (w1 := wr.drew.setCell ⟨gr, c, none⟩ (.int .i64 ((p ||| 4 : Nat) : Int))) (by rfl) rfl (by first | (go_simp; done) | (go_simp; rfl)) ?_
       refine hK.out _ _ ?_
       clear hK K
       refine done_ (by kernel_rfl) ?_
       have hM5 := (hQ.step (below_drew1 (Below.refl _ _))).put hbp2 c (p ||| 4)
       rw [padsAt_set] at hM5
       have hD5 := R_apart (Kd.R_below hD (below_drew1 (Below.refl _ _))) (Keep.set wr.drew ⟨gr, c, none⟩ (.int .i64 ((p ||| 4 : Nat) : Int)))
       go_wp2_with fail
       go_roundg (tapes - (2 + 1))
       case measure => have := hkt.out; omega
       case rel => exact ⟨3, p ||| 4, (by go_num), ⟨by simp⟩, by omega, hor.2, ⟨by have := HP3.out; rw [if_pos trivial] at this; exact this⟩, ⟨hD5⟩, ⟨hM5⟩⟩
     ·have he : ((d : Int) == 2) = false := beq_eq_false_iff_ne.2 (by omega)
      go_wp2_with fail
      go_roundg (tapes - (t + 1))
      case measure => have := hkt.out; omega
      case rel => exact ⟨t + 1, p, (by go_num), ⟨by simp⟩, by omega, hp8, ⟨by rw [← HP3.out, if_neg hd2]⟩, ⟨hD⟩, ⟨hQ⟩⟩
    ·have htt2 : t = tapes := by omega
     subst htt2
     have hlt1 : ((t : Int) < (t : Int)) = False := eq_false (by omega)
     have HP2 := HP.out
     rw [List.drop_of_length_le (by have := hdc.out; omega), padsF] at HP2
     subst HP2
     rw [padsAt_to] at hQ
     go_wp2_with fail
     go_roundg (wd - (c + 1))
     case measure => have := hkq.out; omega
     case rel => exact ⟨c + 1, (by go_num), ⟨by simp⟩, by omega, ⟨hQ⟩⟩
  ·have hcc : c = wd := by omega
   subst hcc
   have hlt1 : ((c : Int) < (c : Int)) = False := eq_false (by omega)
   have c0 : wo.cell? ⟨w.heap.size, 0, none⟩ = some (.int .i64 (tapes : Int)) := (blk_cell hM.bM 0).trans rfl
   have c1 : wo.cell? ⟨w.heap.size, 1, none⟩ = some (.int .i64 (start : Int)) := (blk_cell hM.bM 1).trans rfl
   have hp0 : padsTo dig c c = (List.range c).map (padOf dig) := by simp [padsTo]
   rw [hp0] at hM
   clear hp0 hkq
   have hmach : Mach wo w.heap.size tapes start accs (rows.map ints) := ⟨AA, ca, AN, cn, by rw [List.length_map]; exact hM.bM, Kd.C_below hA hM.bel, by rw [List.length_map]; exact Kd.C_below hN hM.bel, hca, by rw [List.length_map]; exact hcn⟩
   have hnum : Nums wo w2.heap.size (ints ((List.range c).map (padOf dig))) := by
    obtain ⟨e, h1, h2⟩ := Kd.R_reads' hM.grp
    exact ⟨_, cr, by rw [← e]; exact hM.bG, h2, by rw [← e]; exact h1⟩
   have hpad : ∀ x, x < c → padOf dig x < 8 := fun x hx => padsF_lt _ _ _ (by omega) (by have := hdl x hx; omega)
   obtain ⟨f, lp, rp, f1, g, f2, l, hbf, hcs, hby, hbs⟩ := hte.out
   have hgr := grownP tapes start accs rows c hwd2 hcl hn hst hwd (padOf dig) hpad w.heap.size w2.heap.size wo hmach hnum f lp rp hbf
   have hlen := places_len (n := rows.length) hbf (.inr ⟨start, 0, hst, by omega, rfl⟩) (fun p x hp hx => met8_next hcl hpad hp hx)
   have hd := bfs_done f 0 [((start : Int), (0 : Int))] [] lp rp hbf (Nat.zero_le _) rfl (List.pairwise_singleton _ _) (fun r hr => by cases hr) (fun i hi => by cases hi)
   have hcl3 := Aside0.mk (done_closed (accP accs) hd.1)
   obtain ⟨mm, hmm⟩ := hd.2
   have hrl : rp.length = lp.length := hd.1.len
   have hr0 : 0 < rp.length := by rw [hrl, hmm, List.length_append, List.length_singleton]; omega
   have hr1 : rp.length ≤ 1000000 := by omega
   have hla : (lp.map (accP accs)).length = rp.length := by rw [List.length_map, hrl]
   have hcs2 := Aside0.mk hcs
   have hby2 := Aside0.mk hby
   have hla2 := Aside0.mk hla
   have hbs2 := Aside0.mk hbs
   have hbR := hM.bR
   have hB := hM.bel
   clear hmm hd hbf hlen hmach hnum hcs hby hrl hbs hM hla
   generalize lp.map (accP accs) = ac at *
   go_wp2_with (first
    | (go_at_call 106; go_loud (refine hgr.mono ?_; rintro e w6 ⟨vA, vN, rfl, r1, r2, hb6⟩; clear hgr; have hla3 := hla2.out; have hC1 := Kd.R_reads r1; have hC2 := Kd.R_reads r2; obtain ⟨A1, c1, rfl, hc1, hC1⟩ := hC1; obtain ⟨A2, c2, rfl, hc2, hC2⟩ := hC2; rw [List.length_map] at r2 hC2 hc2 ⊢; clear hla3; have hB7 := below_alloc (below_step hB hb6) (.cells #[.int .i64 (tapes : Int), .int .i64 0, .slice A1 ac.length c1, .slice A2 rp.length c2] 66); have bR7 := blk_alloc (blk_below hbR hb6) (.cells #[.int .i64 (tapes : Int), .int .i64 0, .slice A1 ac.length c1, .slice A2 rp.length c2] 66)))
    | (go_at_call 109; go_loud (refine Calls.mono (merged T hT GI hGI hItoa hinj tapes 0 ac rp c hwd2 hcl3.out hr1 hr0 hwd _ (hGI _ _ hG hB7) A1 c1 A2 c2 (Kd.C_below hC1 (below_alloc (Below.refl _ _) _)) (Kd.C_below hC2 (below_alloc (Below.refl _ _) _)) hc1 hc2 f1 g hcs2.out f2 l rws hby2.out) ?_; rintro e w8 ⟨vA, vN, rfl, q1, q2, hb8⟩; obtain ⟨A3, c3, rfl⟩ := Kd.R_slice q1; obtain ⟨A4, c4, rfl⟩ := Kd.R_slice q2; rw [List.length_map] at q1 q2 ⊢; rw [List.length_map]; have b0 := blk_below bR7 hb8; have e0 : w8.cell? ⟨w.heap.size + 1, 0, none⟩ = some (.int .i64 0) := (blk_cell b0 0).trans rfl; have e1 : w8.cell? ⟨w.heap.size + 1, 1, none⟩ = some (.int .i64 0) := (blk_cell b0 1).trans rfl; have e2 : w8.cell? ⟨w.heap.size + 1, 2, none⟩ = some (.slice none 0 0) := (blk_cell b0 2).trans rfl; have e3 : w8.cell? ⟨w.heap.size + 1, 3, none⟩ = some (.slice none 0 0) := (blk_cell b0 3).trans rfl; have g0 : w8.frozen? ⟨w.heap.size + 1, 0, none⟩ = false := blk_frozen b0 0; have g1 : w8.frozen? ⟨w.heap.size + 1, 1, none⟩ = false := blk_frozen b0 1; have g2 : w8.frozen? ⟨w.heap.size + 1, 2, none⟩ = false := blk_frozen b0 2; have g3 : w8.frozen? ⟨w.heap.size + 1, 3, none⟩ = false := blk_frozen b0 3)))
   have hB8 := below_step hB7 hb8
   have q3 := Kd.R_lower q1 (Below.size hB7)
   have q4 := Kd.R_lower q2 (Below.size hB7)
   have b1 := blk_put b0 0 (.int .i64 (tapes : Int)) rfl
   have b2 := blk_put b1 1 (.int .i64 0) rfl
   have b3 := blk_put b2 2 (.slice A3 l.length c3) rfl
   have b4 := blk_put b3 3 (.slice A4 rws.length c4) rfl
   refine bodyPost_ret (results_cell_row rfl _ _ (w.heap.size + 1) 66 #[.int .i64 tapes, .int .i64 0, .slice A3 l.length c3, .slice A4 rws.length c4] (0, 0) _ rfl b4 Tryd.underlying66 rfl (by kernel_rfl)) rfl ⟨_, _, rfl, ?_, ?_, ?_⟩
   ·rw [hbs2.out]
    exact Kd.R_set (Kd.R_set (Kd.R_set (Kd.R_set q3 b0 (by decide) 0 _) b1 (by decide) 1 _) b2 (by decide) 2 _) b3 (by decide) 3 _
   ·exact Kd.R_set (Kd.R_set (Kd.R_set (Kd.R_set q4 b0 (by decide) 0 _) b1 (by decide) 1 _) b2 (by decide) 2 _) b3 (by decide) 3 _
   ·exact (((hB8.setCell (by simp) _).setCell (by simp) _).setCell (by simp) _).setCell (by simp) _
end Go.Proofs.YtnjdkhnepmmfgaaDoor.Td
namespace Go.Proofs.YtnjdkhnepmmfgaaDoor.Mo
set_option linter.unusedVariables false
set_option linter.unusedSimpArgs false
open Go.RowKit Go.Proofs.YtnjdkhnepmmfgaaDoorW.PrintWords Go.Proofs.YtnjdkhnepmmfgaaDoorW.PrintLast Go.Proofs.YtnjdkhnepmmfgaaDoorW.PrintMore Kp Cl Mg
theorem clone (W : World) (A : Option Addr) (c : Nat) (xs : List Bool) (h0 : 0 < xs.length) (hn : xs.length ≤ 1000000) (hC : Kd.C Kd.bool W A xs.length xs) :
  Calls Tryd.prog 101 #[.slice A xs.length c] W fun e W' => ∃ v, e = .returned v ∧ Kd.R Kd.bool 4 W' W.heap.size (fun _ => True) v xs ∧ Below W.heap.size W W' := by
 obtain ⟨⟨b, off, sp⟩, rfl, k0⟩ := at_mark hC 0 h0
 have hsp : sp = none := by
  unfold World.cell? Addr.add at k0
  rw [if_pos rfl] at k0
  split at k0
  ·cases sp with
   | none => rfl
   | some s => simp at k0
  ·cases k0
 subst hsp
 have hc : ∀ j u, (xs.map Value.bool)[j]? = some u → W.cell? ⟨b, off + j, none⟩ = some u := by
  intro j u hj
  obtain ⟨y, hy, rfl⟩ := List.getElem?_map .. ▸ hj |> Option.map_eq_some_iff.1
  obtain ⟨hlt, rfl⟩ := List.getElem?_eq_some_iff.1 hy
  obtain ⟨ad, e, k⟩ := at_mark hC j hlt
  cases e
  have ea : (⟨b, off, none⟩ : Addr).add j = ⟨b, off + j, none⟩ := by
   by_cases h0 : j = 0
   ·subst h0; rfl
   ·simp [Addr.add, h0]
  rw [ea] at k
  exact k
 have hi := GwI.info_bool
 obtain ⟨i0, h1, h2⟩ := Option.map_eq_some_iff.1 hi
 simp only [Prod.mk.injEq] at h2
 have h := Tryd.cloneB i0 (.bool false) 1 1 h1 h2.1 h2.2.1 h2.2.2 rfl (by decide) Tryd.sizeOf4 b off xs.length c (xs.map Value.bool) W (by simp) (by unfold maxLen; omega) (by omega) hc (by intro u hu; obtain ⟨y, _, rfl⟩ := List.mem_map.1 hu; rfl)
 refine Calls.mono h ?_
 rintro e W' ⟨v, rfl, ho, hne, hb⟩
 exact ⟨v, rfl, Kd.R_of_own ho (fun _ _ => trivial), hb⟩
/-- The relation that is read, and the result. -/
structure Pr (w0 : World) (a0 a1 : Int) (AA : Option Addr) (na ca : Nat) (AN : Option Addr) (nn cn : Nat) (W : World) : Prop where
 bP : W.heap[w0.heap.size]? = some (.cells #[.int .i64 a0, .int .i64 a1, .slice AA na ca, .slice AN nn cn] 27 (0, 0))
 bR : W.heap[w0.heap.size + 1]? = some (.cells #[.int .i64 0, .int .i64 0, .slice none 0 0, .slice none 0 0] 66 (0, 0))
 bel : Below w0.heap.size w0 W
section
variable {w0 : World} {a0 a1 : Int} {AA : Option Addr} {na ca : Nat} {AN : Option Addr} {nn cn : Nat} {W W' : World}
theorem Pr.step (h : Pr w0 a0 a1 AA na ca AN nn cn W) (hb : Below W.heap.size W W') : Pr w0 a0 a1 AA na ca AN nn cn W' := ⟨blk_below h.bP hb, blk_below h.bR hb, below_step h.bel hb⟩
theorem Pr.lt (h : Pr w0 a0 a1 AA na ca AN nn cn W) : w0.heap.size + 1 < W.heap.size := blk_lt h.bR
end
/-- .. and the machine that is made; x: the row that is made. -/
structure Mk (w0 : World) (a0 a1 : Int) (AA : Option Addr) (na ca : Nat) (AN : Option Addr) (nn cn : Nat) (gl : Nat) (vA : Value) (bs : List Bool) (vN : Value) (rws : List (List Int)) (x : Option Nat) (W : World) : Prop where
 p : Pr w0 a0 a1 AA na ca AN nn cn W
 bV : W.heap[gl]? = some (.cells #[.int .i64 a0, .int .i64 a1, vA, vN] 66 (0, 0))
 acc : Kd.R Kd.bool 4 W w0.heap.size (fun _ => True) vA bs
 nxt : Kd.R (Kd.slice 3 (Kd.int .i64)) 87 W w0.heap.size (fun k => True ∧ some k ≠ x) vN rws
section
variable {w0 : World} {a0 a1 : Int} {AA : Option Addr} {na ca : Nat} {AN : Option Addr} {nn cn gl : Nat} {vA vN : Value} {bs : List Bool} {rws : List (List Int)} {x : Option Nat} {W W' : World}
theorem Mk.step (h : Mk w0 a0 a1 AA na ca AN nn cn gl vA bs vN rws x W) (hb : Below W.heap.size W W') : Mk w0 a0 a1 AA na ca AN nn cn gl vA bs vN rws x W' := ⟨h.p.step hb, blk_below h.bV hb, Kd.R_below h.acc hb, Kd.R_below h.nxt hb⟩
/-- A number is put behind the row. -/
theorem Mk.more {vr v1 : Value} {r : List Int} {b : Nat} (h : Mk w0 a0 a1 AA na ca AN nn cn gl vA bs vN rws vr.ownBlock W) (hr : Kd.R (Kd.int .i64) 3 W b (fun _ => True) vr r) (hg : W.grownBy W' vr.ownBlock) (hat : v1.ownBlock = vr.ownBlock ∨ ∃ b, v1.ownBlock = some b ∧ W.heap.size ≤ b) (hb : Below w0.heap.size w0 W') : Mk w0 a0 a1 AA na ca AN nn cn gl vA bs vN rws v1.ownBlock W' := by
 have hk := Keep.grown hg
 have o : ∀ E : List Nat, (∀ q ∈ E, q ≠ 3) → Off W vr.ownBlock E := fun E hE => Off.row hr hE
 exact ⟨⟨hk.obj h.p.bP (off_ne h.p.bP (o _ (by decide))), hk.obj h.p.bR (off_ne h.p.bR (o _ (by decide))), hb⟩, hk.obj h.bV (off_ne h.bV (o _ (by decide))), R_off h.acc hk (o _ (by decide)), Kd.R_after h.nxt hg hat⟩
/-- The row is put behind the others. -/
theorem Mk.push {v1 : Value} {rws' : List (List Int)} (h : Mk w0 a0 a1 AA na ca AN nn cn gl vA bs vN rws x W) (hg : W.grownBy W' vN.ownBlock) (hR : Kd.R (Kd.slice 3 (Kd.int .i64)) 87 W' w0.heap.size (fun _ => True) v1 rws') (hb : Below w0.heap.size w0 W') (hgl : w0.heap.size + 1 < gl) :
  W'.heap[gl]? = some (.cells #[.int .i64 a0, .int .i64 a1, vA, vN] 66 (0, 0)) ∧ Mk w0 a0 a1 AA na ca AN nn cn gl vA bs v1 rws' none (W'.setCell ⟨gl, 3, none⟩ v1) := by
 have hk := Keep.grown hg
 have o : ∀ E : List Nat, (∀ q ∈ E, q ≠ 87) → Off W vN.ownBlock E := fun E hE => Off.row h.nxt hE
 have bV := hk.obj h.bV (off_ne h.bV (o _ (by decide)))
 refine ⟨bV, ?_⟩
 have hs := Keep.set W' ⟨gl, 3, none⟩ v1
 have p : ∀ E : List Nat, (∀ q ∈ E, q ≠ 66) → Off W' (some gl) E := fun E hE => Off.cells bV hE
 have n0 : some w0.heap.size ≠ some gl := fun e => by injection e; omega
 have n1 : some (w0.heap.size + 1) ≠ some gl := fun e => by injection e; omega
 exact ⟨⟨hs.obj (hk.obj h.p.bP (off_ne h.p.bP (o _ (by decide)))) n0, hs.obj (hk.obj h.p.bR (off_ne h.p.bR (o _ (by decide)))) n1, hb.setCell (p := ⟨gl, 3, none⟩) (by simp only; omega) v1⟩, blk_put bV 3 v1 rfl, R_off (R_off h.acc hk (o _ (by decide))) hs (p _ (by decide)), Kd.R_mono (R_off hR hs (p _ (by decide))) (fun _ _ => ⟨trivial, by simp⟩)⟩
end
set_option maxHeartbeats 8000000 in
set_option maxRecDepth 100000 in
theorem machineOf (a0 a1 : Int) (accs : List Bool) (rows : List (List Int)) (h0 : 0 < accs.length) (hn : accs.length ≤ 1000000) (hn2 : rows.length ≤ 1000000) (hn3 : ∀ r ∈ rows, r.length ≤ 1000000) (w : World) (AA : Option Addr) (ca : Nat) (AN : Option Addr) (cn : Nat) (hA : Kd.C Kd.bool w AA accs.length accs) (hca : accs.length ≤ ca) (hN : Kd.C (Kd.slice 2 (Kd.int .i64)) w AN rows.length rows) (hcn : rows.length ≤ cn) :
  Calls Tryd.prog 83 #[.agg #[.int .i64 a0, .int .i64 a1, .slice AA accs.length ca, .slice AN rows.length cn]] w fun e w' => ∃ vA vN, e = .returned (.agg #[.int .i64 a0, .int .i64 a1, vA, vN]) ∧
   Kd.R Kd.bool 4 w' w.heap.size (fun _ => True) vA accs ∧ Kd.R (Kd.slice 3 (Kd.int .i64)) 87 w' w.heap.size (fun _ => True) vN rows ∧ Below w.heap.size w w' := by
 go_enter Tryd.func83, Tryd.ntmps83
 go_wp2
 have hP : Pr w a0 a1 AA accs.length ca AN rows.length cn ((w.alloc (.cells #[.int .i64 a0, .int .i64 a1, .slice AA accs.length ca, .slice AN rows.length cn] 27)).alloc (.cells #[.int .i64 0, .int .i64 0, .slice none 0 0, .slice none 0 0] 66)) :=
  ⟨blk_alloc (blk_new _ _) _, blk_at _ _ _ (by simp), below_alloc (below_alloc (Below.refl _ _) _) _⟩
 have hPd := hP.step (below_drew1 (Below.refl _ _))
 clear hP
 generalize hwd : (w.alloc (.cells #[.int .i64 a0, .int .i64 a1, .slice AA accs.length ca, .slice AN rows.length cn] 27)).alloc (.cells #[.int .i64 0, .int .i64 0, .slice none 0 0, .slice none 0 0] 66) = wd at *
 have hSS : ∀ W', Pr w a0 a1 AA accs.length ca AN rows.length cn W' → (fun w' => w'.cell? ⟨w.heap.size, 0, none⟩ = some (.int .i64 a0) ∧ w'.cell? ⟨w.heap.size, 1, none⟩ = some (.int .i64 a1) ∧ w'.cell? ⟨w.heap.size, 2, none⟩ = some (.slice AA accs.length ca)) W' := fun W' h => ⟨(blk_cell h.bP 0).trans rfl, (blk_cell h.bP 1).trans rfl, (blk_cell h.bP 2).trans rfl⟩
 refine start_ (n := 10) (S := fun w' => w'.cell? ⟨w.heap.size, 0, none⟩ = some (.int .i64 a0) ∧ w'.cell? ⟨w.heap.size, 1, none⟩ = some (.int .i64 a1) ∧ w'.cell? ⟨w.heap.size, 2, none⟩ = some (.slice AA accs.length ca)) (ds := [9]) (.replicate 10 false) (by kernel_rfl) rfl rfl (hSS _ hPd) (fun hHeld => ?_)
 refine pure_ (i := 0) (N := some 9) (v := ?_) (a' := ?_) (zb 10 1) rfl rfl (by kernel_rfl) (fun _ _ _ h => h) (Or.inl ⟨by rfl, ?_⟩) ?_ ?_
 rotate_left
 ·intro w'
  go_simp
  with_reducible rfl
 rotate_left
 ·simp only [Act.put, Za, Zb, Zc, i64_w, i32_w]
  rfl
 refine pure_ (i := 2) (N := some 11) (v := ?_) (a' := ?_) (zb 10 5) rfl rfl (by kernel_rfl) (fun _ _ _ h => h) (Or.inl ⟨by rfl, ?_⟩) ?_ ?_
 rotate_left
 ·intro w'
  go_simp
  with_reducible rfl
 rotate_left
 ·simp only [Act.put, Za, Zb, Zc, i64_w, i32_w]
  rfl
 refine pure_ (i := 4) (N := some 13) (v := ?_) (a' := ?_) (zb 10 21) rfl rfl (by kernel_rfl) (fun _ _ _ h => h) (Or.inl ⟨by rfl, ?_⟩) ?_ ?_
 rotate_left
 ·intro w'
  go_simp
  with_reducible rfl
 rotate_left
 ·simp only [Act.put, Za, Zb, Zc, i64_w, i32_w]
  rfl
 refine take_ (i := 1) (N := some 10) (v := ?_) (a' := ?_) (zb 10 23) rfl rfl (by kernel_rfl) (fun _ _ _ h => h) (Or.inl ⟨by rfl, ?_⟩) hHeld ?_ ?_
 rotate_left
 ·rintro w' ⟨s1, s2, s3⟩
  go_simp
  with_reducible rfl
 rotate_left
 ·simp only [Act.put, Za, Zb, Zc, i64_w, i32_w]
  rfl
 refine take_ (i := 3) (N := some 12) (v := ?_) (a' := ?_) (zb 10 31) rfl rfl (by kernel_rfl) (fun _ _ _ h => h) (Or.inl ⟨by rfl, ?_⟩) hHeld ?_ ?_
 rotate_left
 ·rintro w' ⟨s1, s2, s3⟩
  go_simp
  with_reducible rfl
 rotate_left
 ·simp only [Act.put, Za, Zb, Zc, i64_w, i32_w]
  rfl
 refine take_ (i := 5) (N := some 14) (v := ?_) (a' := ?_) (zb 10 63) rfl rfl (by kernel_rfl) (fun _ _ _ h => h) (Or.inl ⟨by rfl, ?_⟩) hHeld ?_ ?_
 rotate_left
 ·rintro w' ⟨s1, s2, s3⟩
  go_simp
  with_reducible rfl
 rotate_left
 ·simp only [Act.put, Za, Zb, Zc, i64_w, i32_w]
  rfl
 refine join_ (σ := Value × Nat) 1 #[true, true, true, true, true, true, true, true, true, false] (fun s => [(15, s.1), (16, .agg #[.int .i64 a0, .int .i64 a1, s.1, .slice none 0 0]), (3, .pointer (some ⟨s.2, 0, none⟩))])
  (fun s w' => Pr w a0 a1 AA accs.length ca AN rows.length cn w' ∧ Kd.R Kd.bool 4 w' w.heap.size (fun _ => True) s.1 accs ∧ w'.heap[s.2]? = some (.cells #[.int .i64 0, .int .i64 0, .slice none 0 0, .slice none 0 0] 66 (0, 0)) ∧ w.heap.size + 1 < s.2) ?_ ?_
 rotate_left
 ·intro hCont
  refine two_ (i := 6) (j := 8) (Ni := some 15) (Nj := some 3) #[true, true, true, true, true, true, true, false, false, false] #[true, true, true, true, true, true, false, false, true, false] rfl rfl rfl rfl (by kernel_rfl) (by decide) (by decide) (fun K hK => ?_) (fun K hK => ?_)
  ·skip
   refine goes_ Tryd.func101 (by kernel_rfl) rfl #[.slice AA accs.length ca] (by rfl) rfl rfl (by (try simp only [List.map_toArray, List.map_cons, List.map_nil]); first | done | rfl) ?_
   with_reducible refine (clone _ AA ca accs h0 hn (Kd.C_below hA hPd.bel)).mono ?_
   rintro e w6 ⟨vA, rfl, r1, hb6⟩
   refine ⟨_, rfl, ?_⟩
   have h6 := hPd.step hb6
   have q1 := Kd.R_lower r1 (Below.size hPd.bel)
   obtain ⟨A1, c1, rfl⟩ := Kd.R_slice q1
   refine hK.out _ _ (hSS _ h6) (fun hHeld => ?_)
   clear hK K
   refine norm_ (a' := ?_) ?_ ?_
   rotate_left
   ·show Act.put _ (some 15) _ = _
    simp only [Act.put, Za, Zb, Zc, i64_w, i32_w]
    rfl
   refine pure_ (i := 7) (N := some 16) (v := ?_) (a' := ?_) (zb 10 255) rfl rfl (by kernel_rfl) (fun _ _ _ h => h) (Or.inl ⟨by rfl, ?_⟩) ?_ ?_
   rotate_left
   ·intro w'
    go_simp
    with_reducible rfl
   rotate_left
   ·simp only [Act.put, Za, Zb, Zc, i64_w, i32_w]
    rfl
   refine one_ (i := 8) (N := some 3) (zb 10 511) rfl rfl (by kernel_rfl) (by decide) (fun K hK => ?_)
   refine value_ (w1 := w6.alloc (.cells #[.int .i64 0, .int .i64 0, .slice none 0 0, .slice none 0 0] 66)) (v := .pointer (some ⟨w6.heap.size, 0, none⟩)) (by rfl) rfl (by first | (go_simp; done) | (go_simp; rfl)) ?_
   have h7 := h6.step (below_alloc (Below.refl _ _) (.cells #[.int .i64 0, .int .i64 0, .slice none 0 0, .slice none 0 0] 66))
   refine hK.out _ _ (hSS _ h7) (fun hHeld => ?_)
   clear hK K
   refine norm_ (a' := ?_) ?_ ?_
   rotate_left
   ·show Act.put _ (some 3) _ = _
    simp only [Act.put, Za, Zb, Zc, i64_w, i32_w]
    rfl
   exact norm_ (by simp only [putAll, Act.put, List.setIfInBounds_toArray, List.set_cons_zero, List.set_cons_succ]) (hCont (.slice A1 accs.length c1, w6.heap.size) _ ⟨h7, Kd.R_below q1 (below_alloc (Below.refl _ _) _), blk_new _ _, h6.lt⟩)
  ·skip
   refine value_ (w1 := wd.drew.alloc (.cells #[.int .i64 0, .int .i64 0, .slice none 0 0, .slice none 0 0] 66)) (v := .pointer (some ⟨wd.drew.heap.size, 0, none⟩)) (by rfl) rfl (by first | (go_simp; done) | (go_simp; rfl)) ?_
   have h6 := hPd.step (below_alloc (Below.refl _ _) (.cells #[.int .i64 0, .int .i64 0, .slice none 0 0, .slice none 0 0] 66))
   refine hK.out _ _ (hSS _ h6) (fun hHeld => ?_)
   clear hK K
   refine norm_ (a' := ?_) ?_ ?_
   rotate_left
   ·show Act.put _ (some 3) _ = _
    simp only [Act.put, Za, Zb, Zc, i64_w, i32_w]
    rfl
   refine one_ (i := 6) (N := some 15) (zb 10 383) rfl rfl (by kernel_rfl) (by decide) (fun K hK => ?_)
   refine goes_ Tryd.func101 (by kernel_rfl) rfl #[.slice AA accs.length ca] (by rfl) rfl rfl (by (try simp only [List.map_toArray, List.map_cons, List.map_nil]); first | done | rfl) ?_
   with_reducible refine (clone _ AA ca accs h0 hn (Kd.C_below hA h6.bel)).mono ?_
   rintro e w7 ⟨vA, rfl, r1, hb6⟩
   refine ⟨_, rfl, ?_⟩
   have h7 := h6.step hb6
   have q1 := Kd.R_lower r1 (Below.size h6.bel)
   obtain ⟨A1, c1, rfl⟩ := Kd.R_slice q1
   refine hK.out _ _ (hSS _ h7) (fun hHeld => ?_)
   clear hK K
   refine norm_ (a' := ?_) ?_ ?_
   rotate_left
   ·show Act.put _ (some 15) _ = _
    simp only [Act.put, Za, Zb, Zc, i64_w, i32_w]
    rfl
   refine pure_ (i := 7) (N := some 16) (v := ?_) (a' := ?_) (zb 10 511) rfl rfl (by kernel_rfl) (fun _ _ _ h => h) (Or.inl ⟨by rfl, ?_⟩) ?_ ?_
   rotate_left
   ·intro w'
    go_simp
    with_reducible rfl
   rotate_left
   ·simp only [Act.put, Za, Zb, Zc, i64_w, i32_w]
    rfl
   exact norm_ (by simp only [putAll, Act.put, List.setIfInBounds_toArray, List.set_cons_zero, List.set_cons_succ]) (hCont (.slice A1 accs.length c1, wd.drew.heap.size) _ ⟨h7, q1, blk_below (blk_new _ _) hb6, hPd.lt⟩)
 rintro ⟨vA, gl⟩ w8 ⟨h8, r1, b0, hgl⟩
 dsimp only at r1 b0 hgl ⊢
 obtain ⟨A1, c1, rfl⟩ := Kd.R_slice r1
 refine norm_ (a' := ?_) ?_ ?_
 rotate_left
 ·simp only [putAll, Act.put, List.setIfInBounds_toArray, List.set_cons_zero, List.set_cons_succ, i64_w, i32_w]
  rfl
 have e0 : w8.cell? ⟨gl, 0, none⟩ = some (.int .i64 0) := (blk_cell b0 0).trans rfl
 have f0 : w8.frozen? ⟨gl, 0, none⟩ = false := blk_frozen b0 0
 have e1 : w8.cell? ⟨gl, 1, none⟩ = some (.int .i64 0) := (blk_cell b0 1).trans rfl
 have f1 : w8.frozen? ⟨gl, 1, none⟩ = false := blk_frozen b0 1
 have e2 : w8.cell? ⟨gl, 2, none⟩ = some (.slice none 0 0) := (blk_cell b0 2).trans rfl
 have f2 : w8.frozen? ⟨gl, 2, none⟩ = false := blk_frozen b0 2
 have e3 : w8.cell? ⟨gl, 3, none⟩ = some (.slice none 0 0) := (blk_cell b0 3).trans rfl
 have f3 : w8.frozen? ⟨gl, 3, none⟩ = false := blk_frozen b0 3
 refine last_ (i := 9) (N := none) (zb 10 1023) rfl rfl (by kernel_rfl) (by decide) (fun K hK => ?_)
 refine skip_ (w1 := (((w8.setCell ⟨gl, 0, none⟩ (.int .i64 a0)).setCell ⟨gl, 1, none⟩ (.int .i64 a1)).setCell ⟨gl, 2, none⟩ (.slice A1 accs.length c1)).setCell ⟨gl, 3, none⟩ (.slice none 0 0)) (by rfl) rfl (by first | (go_simp; done) | (go_simp; rfl)) ?_
 refine hK.out _ _ ?_
 clear hK K
 refine done_ (by kernel_rfl) ?_
 have hgg : w.heap.size ≤ gl := by omega
 have n0 : some w.heap.size ≠ some gl := fun e => by injection e; omega
 have n1 : some (w.heap.size + 1) ≠ some gl := fun e => by injection e; omega
 have b1 := blk_put b0 0 (.int .i64 a0) rfl
 have b2 := blk_put b1 1 (.int .i64 a1) rfl
 have b3 := blk_put b2 2 (.slice A1 accs.length c1) rfl
 have b4 := blk_put b3 3 (.slice none 0 0) rfl
 have q1 := Kd.R_set (Kd.R_set (Kd.R_set (Kd.R_set r1 b0 (by decide) 0 (.int .i64 a0)) b1 (by decide) 1 (.int .i64 a1)) b2 (by decide) 2 (.slice A1 accs.length c1)) b3 (by decide) 3 (.slice none 0 0)
 have hB := (((h8.bel.setCell (p := ⟨gl, 0, none⟩) hgg (.int .i64 a0)).setCell (p := ⟨gl, 1, none⟩) hgg (.int .i64 a1)).setCell (p := ⟨gl, 2, none⟩) hgg (.slice A1 accs.length c1)).setCell (p := ⟨gl, 3, none⟩) hgg (.slice none 0 0)
 have bP := (Keep.set _ ⟨gl, 3, none⟩ (.slice none 0 0)).obj ((Keep.set _ ⟨gl, 2, none⟩ (.slice A1 accs.length c1)).obj ((Keep.set _ ⟨gl, 1, none⟩ (.int .i64 a1)).obj ((Keep.set _ ⟨gl, 0, none⟩ (.int .i64 a0)).obj h8.bP n0) n0) n0) n0
 have bR := (Keep.set _ ⟨gl, 3, none⟩ (.slice none 0 0)).obj ((Keep.set _ ⟨gl, 2, none⟩ (.slice A1 accs.length c1)).obj ((Keep.set _ ⟨gl, 1, none⟩ (.int .i64 a1)).obj ((Keep.set _ ⟨gl, 0, none⟩ (.int .i64 a0)).obj h8.bR n1) n1) n1) n1
 clear b0 b1 b2 b3 r1 e0 e1 e2 e3 f0 f1 f2 f3 h8 hSS hPd n0 n1
 generalize ((((w8.setCell ⟨gl, 0, none⟩ (.int .i64 a0)).setCell ⟨gl, 1, none⟩ (.int .i64 a1)).setCell ⟨gl, 2, none⟩ (.slice A1 accs.length c1)).setCell ⟨gl, 3, none⟩ (.slice none 0 0)) = w9 at *
 have hM : Mk w a0 a1 AA accs.length ca AN rows.length cn gl (.slice A1 accs.length c1) accs (.slice none 0 0) [] none w9 := ⟨⟨bP, bR, hB⟩, b4, q1, Kd.R_nil _ _ _ _ _⟩
 have c3 : w9.cell? ⟨w.heap.size, 3, none⟩ = some (.slice AN rows.length cn) := (blk_cell bP 3).trans rfl
 clear bP bR hB b4 q1
 go_wp2
 clear c3
 go_loopg [20] rows.length (fun kq v20 wr => ∃ (i : Nat) (A2 : Option Addr) (c2 : Nat), v20 = .int .i64 (i : Int) ∧ Aside0 (kq = rows.length - i) ∧ i ≤ rows.length ∧ Aside0 (Mk w a0 a1 AA accs.length ca AN rows.length cn gl (.slice A1 accs.length c1) accs (.slice A2 i c2) (rows.take i) none wr))
 case atStart => exact ⟨0, none, 0, rfl, ⟨by simp⟩, Nat.zero_le _, ⟨hM⟩⟩
 case round =>
  clear hM
  obtain ⟨wo, rfl⟩ : ∃ wo : World, wo = wr := ⟨_, rfl⟩
  obtain ⟨i, A2, c2, rfl, hkq, hil, hM⟩ := hrel
  replace hM := hM.out
  by_cases hlt : i < rows.length
  ·obtain ⟨ad, rfl, A', c', k1, k2, k3⟩ := at_row (Kd.C_below hN hM.p.bel) i hlt
   have hrl : rows[i].length ≤ 1000000 := hn3 _ (List.getElem_mem hlt)
   have htk : rows.take (i + 1) = rows.take i ++ [rows[i]] := List.take_succ_eq_append_getElem hlt
   have htk2 := Aside0.mk htk
   clear htk
   generalize rows[i] = ri at *
   have hlt1 : ((i : Int) < (rows.length : Int)) = True := eq_true (by omega)
   have h0i : (0 ≤ (i : Int)) = True := eq_true (by omega)
   go_wp2_with fail
   go_loopg [6, 26] ri.length (fun kq v6 v26 wq => ∃ (j : Nat) (Ar : Option Addr) (cr : Nat), v6 = .slice Ar j cr ∧ v26 = .int .i64 (j : Int) ∧ Aside0 (kq = ri.length - j) ∧ j ≤ ri.length ∧ Aside0 (Below wo.heap.size wo wq) ∧ Aside0 (Kd.R (Kd.int .i64) 3 wq wo.heap.size (fun _ => True) (.slice Ar j cr) (ri.take j)) ∧ Aside0 (Mk w a0 a1 AA accs.length ca (some ad) rows.length cn gl (.slice A1 accs.length c1) accs (.slice A2 i c2) (rows.take i) (Value.slice Ar j cr).ownBlock wq))
   case atStart => exact ⟨0, none, 0, rfl, rfl, ⟨by simp⟩, Nat.zero_le _, ⟨Below.refl _ _⟩, ⟨Kd.R_nil _ _ _ _ _⟩, ⟨hM⟩⟩
   case round =>
    obtain ⟨j, Ar, cr, rfl, rfl, hkj, hjl, hbq, hr, hQ⟩ := hrel
    replace hr := hr.out
    replace hQ := hQ.out
    by_cases hjt : j < ri.length
    ·obtain ⟨a2, rfl, m1⟩ := at_num (Kd.C_below k3 hbq.out) j hjt
     have htj : ri.take (j + 1) = ri.take j ++ [ri[j]] := List.take_succ_eq_append_getElem hjt
     have htj2 := Aside0.mk htj
     have hjl2 : Aside0 ((ri.take j).length = j) := ⟨by rw [List.length_take]; omega⟩
     clear htj
     generalize ri[j] = y at *
     have hlt2 : ((j : Int) < (ri.length : Int)) = True := eq_true (by omega)
     have h0j : (0 ≤ (j : Int)) = True := eq_true (by omega)
     go_wp2_with ((with_reducible refine gate_builtin (b := .append) (xs := #[.tmp 30, .tmp 32]) rfl ?_); go_loud (at_builtin; refine R_append' (Kd.int .i64) (w0 := wo) wo.heap.size rfl (.tmp 30) (.tmp 32) 87 3 (.int .i64 0) 8 rfl Tryd.underlying87 GwI.info_int rfl (by decide) (by decide) (.slice Ar j cr) (ri.take j) y [.int .i64 y] (fun _ => True) (fun _ => False) _ (by simp) rfl rfl rfl (fun _ h => h.elim) (fun _ _ => trivial) hr hbq.out (Below.size hbq.out) (by have := hjl2.out; omega) ?_; intro v6 w6 hR6 hb6 hg6 hat6; obtain ⟨A6, c6, hv6⟩ := Kd.R_slice hR6; have ev : (ri.take j ++ [y]).length = j + 1 := (by rw [List.length_append, hjl2.out]; rfl); rw [ev] at hv6; subst hv6; have h6 := hQ.more hr hg6 hat6 (below_step hM.p.bel hb6)))
     go_roundg (ri.length - (j + 1))
     case measure => have := hkj.out; omega
     case rel => exact ⟨j + 1, A6, c6, rfl, (by go_num), ⟨by simp⟩, by omega, ⟨hb6⟩, ⟨by rw [htj2.out]; exact hR6⟩, ⟨h6⟩⟩
    ·have hjj : j = ri.length := by omega
     subst j
     have hlt2 : ((ri.length : Int) < (ri.length : Int)) = False := eq_false (by omega)
     rw [List.take_length] at hr
     have cV : wr.cell? ⟨gl, 3, none⟩ = some (.slice A2 i c2) := (blk_cell hQ.bV 3).trans rfl
     have hil2 : Aside0 ((rows.take i).length = i) := ⟨by rw [List.length_take]; omega⟩
     go_wp2_with ((with_reducible refine gate_builtin (b := .append) (xs := #[.tmp 36, .tmp 38]) rfl ?_); go_loud (at_builtin; refine R_append' (Kd.slice 3 (Kd.int .i64)) (w0 := w) w.heap.size rfl (.tmp 36) (.tmp 38) 64 87 (.slice none 0 0) 24 rfl Tryd.underlying64 GwI.info_ints rfl (by decide) (by decide) (.slice A2 i c2) (rows.take i) ri [.slice Ar ri.length cr] (fun _ => True) (fun k => True ∧ some k ≠ (Value.slice A2 i c2).ownBlock) _ (by simp) rfl rfl (Kd.M_row (R_typed (Kd.R_lower hr (Below.size hM.p.bel)) hQ.nxt (by decide))) (fun _ hk => hk) (fun _ _ => trivial) (Kd.R_mono hQ.nxt (fun _ _ => trivial)) hQ.p.bel (Below.size hQ.p.bel) (by have := hil2.out; omega) ?_; intro v8 w8 hR8 hb8 hg8 hat8; obtain ⟨A8, c8, hv8⟩ := Kd.R_slice hR8; have ev8 : (rows.take i ++ [ri]).length = i + 1 := (by rw [List.length_append, hil2.out]; rfl); rw [ev8] at hv8; subst hv8; obtain ⟨b8, h9⟩ := hQ.push hg8 hR8 hb8 hgl; have c83 : w8.cell? ⟨gl, 3, none⟩ = some (.slice A2 i c2) := (blk_cell b8 3).trans rfl; have f83 : w8.frozen? ⟨gl, 3, none⟩ = false := blk_frozen b8 3))
     go_roundg (rows.length - (i + 1))
     case measure => have := hkq.out; omega
     case rel => exact ⟨i + 1, A8, c8, (by go_num), ⟨by simp⟩, by omega, ⟨by rw [htk2.out]; exact h9⟩⟩
  ·have hii : i = rows.length := by omega
   subst i
   have hlt1 : ((rows.length : Int) < (rows.length : Int)) = False := eq_false (by omega)
   rw [List.take_length] at hM
   have bV := hM.bV
   have d0 : wo.cell? ⟨gl, 0, none⟩ = some (.int .i64 a0) := (blk_cell bV 0).trans rfl
   have d1 : wo.cell? ⟨gl, 1, none⟩ = some (.int .i64 a1) := (blk_cell bV 1).trans rfl
   have d2 : wo.cell? ⟨gl, 2, none⟩ = some (.slice A1 accs.length c1) := (blk_cell bV 2).trans rfl
   have d3 : wo.cell? ⟨gl, 3, none⟩ = some (.slice A2 rows.length c2) := (blk_cell bV 3).trans rfl
   have b := hM.p.bR
   have e0 : wo.cell? ⟨w.heap.size + 1, 0, none⟩ = some (.int .i64 0) := (blk_cell b 0).trans rfl
   have e1 : wo.cell? ⟨w.heap.size + 1, 1, none⟩ = some (.int .i64 0) := (blk_cell b 1).trans rfl
   have e2 : wo.cell? ⟨w.heap.size + 1, 2, none⟩ = some (.slice none 0 0) := (blk_cell b 2).trans rfl
   have e3 : wo.cell? ⟨w.heap.size + 1, 3, none⟩ = some (.slice none 0 0) := (blk_cell b 3).trans rfl
   have f0 : wo.frozen? ⟨w.heap.size + 1, 0, none⟩ = false := blk_frozen b 0
   have f1 : wo.frozen? ⟨w.heap.size + 1, 1, none⟩ = false := blk_frozen b 1
   have f2 : wo.frozen? ⟨w.heap.size + 1, 2, none⟩ = false := blk_frozen b 2
   have f3 : wo.frozen? ⟨w.heap.size + 1, 3, none⟩ = false := blk_frozen b 3
   go_wp2_with fail
   have b1 := blk_put b 0 (.int .i64 a0) rfl
   have b2 := blk_put b1 1 (.int .i64 a1) rfl
   have b3 := blk_put b2 2 (.slice A1 accs.length c1) rfl
   have b5 := blk_put b3 3 (.slice A2 rows.length c2) rfl
   refine bodyPost_ret (results_cell_row rfl _ _ (w.heap.size + 1) 66 #[.int .i64 a0, .int .i64 a1, .slice A1 accs.length c1, .slice A2 rows.length c2] (0, 0) _ rfl b5 Tryd.underlying66 rfl (by kernel_rfl)) rfl ⟨_, _, rfl, ?_, ?_, ?_⟩
   ·exact Kd.R_set (Kd.R_set (Kd.R_set (Kd.R_set hM.acc b (by decide) 0 _) b1 (by decide) 1 _) b2 (by decide) 2 _) b3 (by decide) 3 _
   ·exact Kd.R_mono (Kd.R_set (Kd.R_set (Kd.R_set (Kd.R_set hM.nxt b (by decide) 0 _) b1 (by decide) 1 _) b2 (by decide) 2 _) b3 (by decide) 3 _) (fun _ _ => trivial)
   ·exact (((hM.p.bel.setCell (by simp) _).setCell (by simp) _).setCell (by simp) _).setCell (by simp) _
end Go.Proofs.YtnjdkhnepmmfgaaDoor.Mo
namespace Go.Proofs.YtnjdkhnepmmfgaaDoor.Rg
set_option linter.unusedVariables false
set_option linter.unusedSimpArgs false
open Go.RowKit Go.Proofs.YtnjdkhnepmmfgaaDoorW.PrintWords Go.Proofs.YtnjdkhnepmmfgaaDoorW.PrintLast Go.Proofs.YtnjdkhnepmmfgaaDoorW.PrintMore Mp Kp Mg Tdy
/-- The next state and tapes; none where a tape that has ended goes on. -/
def nxR (rows : List (List Nat)) (size : Nat) (en : Nat → Nat → Option Nat) (x c : Nat) : Option Nat := (en (x % size) c).map (fun e => ((rows.getD (x / size) []).getD c 0) * size + e)
def enI (en : Nat → Nat → Option Nat) (e c : Nat) : Int := match en e c with
 | none => -1
 | some e' => (e' : Int)
theorem w_pow {tapes size : Nat} (hsz : 2 ^ tapes = size) (h : size ≤ 8) : wrap64 ((2 : Int) ^ tapes) = (size : Int) := by
 have e : ((2 : Int) ^ tapes) = (size : Int) := by rw [← hsz]; simp
 rw [e]
 unfold wrap64
 omega
theorem w_mul {a size n : Nat} (hn : a * size = n) (h : n ≤ 800000) : wrap64 ((a : Int) * (size : Int)) = (n : Int) := by
 have e : ((a : Int) * (size : Int)) = (n : Int) := by rw [← hn]; simp
 rw [e]
 unfold wrap64
 omega
theorem w_div {x size : Nat} (h : x / size ≤ 1000000) : wrap64 ((x : Int) / (size : Int)) = ((x / size : Nat) : Int) := by
 rw [← Int.natCast_ediv]
 generalize x / size = q at *
 unfold wrap64
 omega
theorem w_nat {n : Nat} (h : n ≤ 1000000) : wrap64 (n : Int) = (n : Int) := by
 unfold wrap64
 omega
theorem w_add {a b : Nat} (h : a + b ≤ 1000000) : wrap64 ((a : Int) + (b : Int)) = ((a + b : Nat) : Int) := by
 rw [← Int.natCast_add]
 exact w_nat h
theorem y_lt {y n size N e : Nat} (hy : y < n) (hN : n * size = N) (he : e < size) : y * size + e < N := by
 have h : (y + 1) * size ≤ n * size := Nat.mul_le_mul_right _ hy
 rw [Nat.succ_mul, hN] at h
 omega
theorem size_le {tapes size : Nat} (htp : tapes ≤ 3) (hsz : 2 ^ tapes = size) : 0 < size ∧ size ≤ 8 := by
 have : tapes = 0 ∨ tapes = 1 ∨ tapes = 2 ∨ tapes = 3 := by omega
 rcases this with rfl | rfl | rfl | rfl <;> simp at hsz <;> omega
theorem cut_lt {a b n size : Nat} (h : a < b) (hn : b * size = n) (h0 : 0 < size) : a * size < n := by
 rw [← hn]
 exact Nat.mul_lt_mul_of_pos_right h h0
theorem info_longs : (Tryd.prog.info? 75).map (fun i => (i.zero, i.size, i.bytes)) = some (some (.slice none 0 0), 1, 24) := by kernel_rfl
theorem info_long : (Tryd.prog.info? 2).map (fun i => (i.zero, i.size, i.bytes)) = some (some (.int .i64 0), 1, 8) := by kernel_rfl
set_option maxHeartbeats 8000000 in
set_option maxRecDepth 100000 in
theorem right (tapes : Nat) (htp : tapes ≤ 3) (size : Nat) (hsz : 2 ^ tapes = size) (start : Nat) (accs : List Bool) (rows : List (List Nat)) (wd : Nat) (hwd1 : 0 < wd) (hwd2 : wd ≤ 30) (hcl : Closed wd rows accs) (hn : rows.length ≤ 100000) (hst : start < rows.length)
  (en : Nat → Nat → Option Nat) (hen : ∀ e c e', e < size → c < wd → en e c = some e' → e' < size)
  (hwide : ∀ W, Calls Tryd.prog 53 #[.int .i64 tapes] W fun e W' => e = .returned (.int .i64 wd) ∧ Below W.heap.size W W')
  (hended : ∀ W e c, e < size → c < wd → Calls Tryd.prog 104 #[.int .i64 tapes, .int .i64 (e : Int), .int .i64 (c : Int)] W fun r W' => r = .returned (.int .i64 (enI en e c)) ∧ Below W.heap.size W W')
  (w : World) (gp : Nat) (AA : Option Addr) (ca : Nat) (AN : Option Addr) (cn : Nat) (hP : w.heap[gp]? = some (.cells #[.int .i64 tapes, .int .i64 start, .slice AA accs.length ca, .slice AN rows.length cn] 27 (0, 0)))
  (hA : Kd.C Kd.bool w AA accs.length accs) (hN : Kd.C (Kd.slice 2 (Kd.int .i64)) w AN rows.length (rows.map ints)) :
  Calls Tryd.prog 79 #[.pointer (some ⟨gp, 0, none⟩)] w fun e w' => ∃ (vA vN : Value) (li : List Nat) (rws : List (List Int)), e = .returned (.agg #[.int .i64 tapes, .int .i64 0, vA, vN]) ∧
   Kd.R Kd.bool 4 w' w.heap.size (fun _ => True) vA (li.map (fun x => accs.getD (x / size) false) ++ [false]) ∧ Kd.R (Kd.slice 2 (Kd.int .i64)) 75 w' w.heap.size (fun _ => True) vN (fixTo li.length li.length rws ++ [List.replicate wd (li.length : Int)]) ∧
   li[0]? = some (start * size) ∧ rws.length = li.length ∧ (∀ r ∈ rws, r.length = wd) ∧ (∀ (k x : Nat) (r : List Int), li[k]? = some x → rws[k]? = some r → RowOk (nxR rows size en) li x r) ∧ (∀ x ∈ li, x < rows.length * size) ∧ li.length ≤ rows.length * size ∧ Below w.heap.size w w' := by
 have hlen := Aside0.mk hcl.len
 have hsz1 := size_le htp hsz
 have hw1 := Aside0.mk (w_pow hsz hsz1.2)
 have hN8 : rows.length * size ≤ 800000 := Nat.le_trans (Nat.mul_le_mul hn hsz1.2) (by decide)
 clear hsz
 have hgp := blk_lt hP
 have P1 := blk_alloc hP (.cells #[.int .i64 0, .int .i64 0, .slice none 0 0, .slice none 0 0] 27)
 have d0 : (w.alloc (.cells #[.int .i64 0, .int .i64 0, .slice none 0 0, .slice none 0 0] 27)).cell? ⟨gp, 0, none⟩ = some (.int .i64 tapes) := (blk_cell P1 0).trans rfl
 have d2 : (w.alloc (.cells #[.int .i64 0, .int .i64 0, .slice none 0 0, .slice none 0 0] 27)).cell? ⟨gp, 2, none⟩ = some (.slice AA accs.length ca) := (blk_cell P1 2).trans rfl
 obtain ⟨NN, hNN⟩ : ∃ NN : Nat, rows.length * size = NN := ⟨_, rfl⟩
 rw [hNN] at hN8
 have hw2 : Aside0 (wrap64 ((accs.length : Int) * (size : Int)) = (NN : Int)) := ⟨by rw [← hlen.out]; exact w_mul hNN hN8⟩
 obtain ⟨s0, hS0⟩ : ∃ s0 : Nat, start * size = s0 := ⟨_, rfl⟩
 have hs0N : s0 < NN := by rw [← hS0]; exact cut_lt hst hNN hsz1.1
 have hw3 := Aside0.mk (w_mul hS0 (Nat.le_trans (Nat.le_of_lt hs0N) hN8))
 have hNN2 := Aside0.mk hNN
 have hS02 := Aside0.mk hS0
 clear hNN hS0
 go_enter Tryd.func79, Tryd.ntmps79
 go_wp2_with ((with_reducible refine gate_dst (N := 34) rfl ?_); go_loud (simp only [hw1.out, hw2.out]; refine Kd.R_make (Kd.int .i64) (w0 := w) w.heap.size 2 rfl (N := 34) rfl 75 _ _ rfl (NN : Int) rfl rfl Tryd.underlying75 (.int .i64 0) 8 info_long rfl (by decide) (by decide) (0 : Int) (ok := fun _ => True) (okp := fun _ => False) rfl (fun _ h => h.elim) trivial (by omega) (by simp; omega) (below_alloc (Below.refl _ _) _) (by simp) ?_; intro v2 w2 hR2 hb2 hg2 hn2; simp only [Int.toNat_natCast] at hR2; obtain ⟨gT, cT, hv2, hgT, _, _⟩ := Kd.R_form hR2 (by simp; omega); subst hv2; rw [List.length_replicate] at hR2; have h2 : R0 w gp #[.int .i64 tapes, .int .i64 start, .slice AA accs.length ca, .slice AN rows.length cn] (.slice (some ⟨gT, 0, none⟩) NN cT) (List.replicate NN 0) w2 := ⟨(Keep.grown hg2).obj P1 (by simp), (Keep.grown hg2).obj (blk_new _ _) (by simp), hR2, hb2⟩; clear hR2 hb2 hg2 hn2))
 clear P1 d0 d2
 go_loopg [6] NN (fun kq v6 wr => ∃ i : Nat, v6 = .int .i64 (i : Int) ∧ Aside0 (kq = NN - i) ∧ i ≤ NN ∧ Aside0 (R0 w gp #[.int .i64 tapes, .int .i64 start, .slice AA accs.length ca, .slice AN rows.length cn] (.slice (some ⟨gT, 0, none⟩) NN cT) (List.replicate i (-1) ++ List.replicate (NN - i) 0) wr))
 case atStart => exact ⟨0, rfl, ⟨by simp⟩, Nat.zero_le _, ⟨by simpa using h2⟩⟩
 case round =>
  clear h2
  obtain ⟨wo, rfl⟩ : ∃ wo : World, wo = wr := ⟨_, rfl⟩
  obtain ⟨i, rfl, hkq, hil, hr⟩ := hrel
  replace hr := hr.out
  by_cases hlt : i < NN
  ·have hl : (List.replicate i (-1 : Int) ++ List.replicate (NN - i) 0).length = NN := by simp; omega
   have k1 := sr_at hr.tab (i := i) (by rw [hl]; exact hlt)
   obtain ⟨hbT, cells, hcT⟩ := row_blk hr.tab (by rw [hl]; omega)
   have f1 : wo.frozen? ⟨gT, i, none⟩ = false := blk_frozen hcT i
   have h3 := hr.set hbT i (-1)
   rw [fill_step NN i hlt] at h3
   generalize (List.replicate i (-1 : Int) ++ List.replicate (NN - i) 0)[i]'(by rw [hl]; exact hlt) = oi at *
   clear hl hcT cells
   have hlt1 : ((i : Int) < (NN : Int)) = True := eq_true (by omega)
   have h0i : (0 ≤ (i : Int)) = True := eq_true (by omega)
   go_wp2_with fail
   go_roundg (NN - (i + 1))
   case measure => have := hkq.out; omega
   case rel => exact ⟨i + 1, (by go_num), ⟨by simp⟩, by omega, ⟨h3⟩⟩
  ·have hii : i = NN := by omega
   subst i
   have hlt1 : ((NN : Int) < (NN : Int)) = False := eq_false (by omega)
   have hl0 : List.replicate NN (-1 : Int) ++ List.replicate (NN - NN) 0 = List.replicate NN (-1) := by simp
   rw [hl0] at hr
   clear hl0
   have d0 : wo.cell? ⟨gp, 0, none⟩ = some (.int .i64 tapes) := (blk_cell hr.bP 0).trans rfl
   have d1 : wo.cell? ⟨gp, 1, none⟩ = some (.int .i64 start) := (blk_cell hr.bP 1).trans rfl
   obtain ⟨hbT, cells, hcT⟩ := row_blk hr.tab (by rw [List.length_replicate]; omega)
   have hgT1 := blk_lt hcT
   have hr1 := hr.step (below_alloc (Below.refl _ _) (.cells #[.int .i64 (s0 : Int)] 2))
   have d3 : (wo.alloc (.cells #[.int .i64 (s0 : Int)] 2)).cell? ⟨gp, 1, none⟩ = some (.int .i64 start) := (blk_cell hr1.bP 1).trans rfl
   have k1 := sr_at hr1.tab (i := s0) (by rw [List.length_replicate]; exact hs0N)
   have f1 : (wo.alloc (.cells #[.int .i64 (s0 : Int)] 2)).frozen? ⟨gT, s0, none⟩ = false := blk_frozen (blk_alloc hcT _) s0
   have hlt2 : ((s0 : Int) < (NN : Int)) = True := eq_true (by omega)
   have h0s : (0 ≤ (s0 : Int)) = True := eq_true (by omega)
   clear hcT cells
   have hr2 := (hr.set hbT s0 0).step (below_alloc (Below.refl _ _) (.cells #[.int .i64 (s0 : Int)] 2))
   have d4 : ((wo.setCell ⟨gT, s0, none⟩ (.int .i64 0)).alloc (.cells #[.int .i64 (s0 : Int)] 2)).cell? ⟨gp, 0, none⟩ = some (.int .i64 tapes) := (blk_cell hr2.bP 0).trans rfl
   have hw3e := hw3.out
   go_wp2_with fail
   clear hw3e d3 d4 k1 f1 hr1 d0 d1
   have hsw := Below.size hr.bel
   have hszw : (wo.setCell ⟨gT, s0, none⟩ (.int .i64 0)).heap.size = wo.heap.size := by simp [World.setCell]
   have hL : SR ((wo.setCell ⟨gT, s0, none⟩ (.int .i64 0)).alloc (.cells #[.int .i64 (s0 : Int)] 2)) w.heap.size (.slice (some ⟨wo.heap.size, 0, none⟩) 1 1) [(s0 : Int)] := by
    rw [← hszw]
    exact R_one (Kd.int .i64) _ _ _ (by rw [hszw]; exact hsw) (okp := fun _ => False) (cs := [.int .i64 (s0 : Int)]) rfl (fun _ h => h.elim) trivial
   generalize hWW : (wo.setCell ⟨gT, s0, none⟩ (.int .i64 0)).alloc (.cells #[.int .i64 (s0 : Int)] 2) = wx at *
   have hwx : wx.heap.size = wo.heap.size + 1 := by rw [← hWW]; simp [World.setCell]
   generalize hgg : wo.heap.size + 1 = gV at *
   have h5 : Rt w gp #[.int .i64 tapes, .int .i64 start, .slice AA accs.length ca, .slice AN rows.length cn] tapes gV (.slice (some ⟨gT, 0, none⟩) NN cT) ((List.replicate NN (-1 : Int)).set s0 0) (.slice (some ⟨wo.heap.size, 0, none⟩) 1 1) [(s0 : Int)] (.slice none 0 0) [] (.slice none 0 0) [] [] wd (wx.alloc (.cells #[.int .i64 tapes, .int .i64 0, .slice none 0 0, .slice none 0 0] 27)) :=
    ⟨blk_alloc hr2.bP _, blk_alloc hr2.bR _, blk_at _ _ _ hwx.symm, Kd.R_below hr2.tab (below_alloc (Below.refl _ _) _), Kd.R_below hL (below_alloc (Below.refl _ _) _), Kd.R_nil _ _ _ _ _, Kd.R_nil _ _ _ _ _, (fun i a r ha => by simp at ha), (fun a ha => by cases ha), List.Pairwise.nil, (fun k hk e => by cases hk; simp [Value.ownBlock] at e; omega), rfl, below_alloc hr2.bel _⟩
   have hTab := Aside0.mk (tab_start hs0N)
   have hVs : Aside0 (w.heap.size < gV) := ⟨by omega⟩
   have hgV : Aside0 (gp ≠ gV) := ⟨by omega⟩
   clear hr2 hr hL hWW hwx hszw hsw hgT1 hkq hgg
   go_loopg [7, 9] NN (fun kq v7 v9 wr => ∃ (i : Nat) (li : List Nat) (tab : List Int) (A7 : Option Addr) (c7 : Nat) (vA vN : Value) (hs : List (Nat × Nat)) (rws : List (List Int)), v7 = .slice A7 li.length c7 ∧ v9 = .int .i64 (i : Int) ∧ Aside0 (kq = NN - i) ∧ i ≤ li.length ∧ Aside0 (Tab NN li tab) ∧ Aside0 (li[0]? = some s0) ∧ Aside0 (rws.length = i) ∧ Aside0 (∀ r ∈ rws, r.length = wd) ∧ Aside0 (∀ (k x : Nat) (r : List Int), li[k]? = some x → rws[k]? = some r → RowOk (nxR rows size en) li x r) ∧
    Aside0 (Rt w gp #[.int .i64 tapes, .int .i64 start, .slice AA accs.length ca, .slice AN rows.length cn] tapes gV (.slice (some ⟨gT, 0, none⟩) NN cT) tab (.slice A7 li.length c7) (ints li) vA ((li.take i).map (fun x => accs.getD (x / size) false)) vN hs rws wd wr))
   case atStart => exact ⟨0, [s0], _, _, _, _, _, [], [], rfl, rfl, ⟨by simp⟩, Nat.zero_le _, hTab, ⟨rfl⟩, ⟨rfl⟩, ⟨fun r hr => by cases hr⟩, ⟨fun k x r _ hr => by simp at hr⟩, ⟨h5⟩⟩
   case round =>
    clear h5 hTab
    obtain ⟨wo, rfl⟩ : ∃ wo : World, wo = wr := ⟨_, rfl⟩
    obtain ⟨i, li, tab, A7, c7, vA, vN, hs, rws, rfl, rfl, hkq, hil, hTab, hli0, hrl, hrw, hok, hR⟩ := hrel
    replace hR := hR.out
    by_cases hlt : i < li.length
    ·have hli := hTab.out.le
     have hlsz : Aside0 (li[i] < NN) := ⟨hTab.out.lt _ (List.getElem_mem hlt)⟩
     obtain ⟨ad, rfl, k1⟩ := sr_at' hR.lst (i := i) (by rw [ints_length]; exact hlt)
     rw [ints_get li i _ hlt] at k1
     have hxi := Aside0.mk (List.getElem?_eq_getElem hlt)
     generalize li[i] = x at *
     have hlt1 : ((i : Int) < (li.length : Int)) = True := eq_true (by omega)
     have h0i : (0 ≤ (i : Int)) = True := eq_true (by omega)
     have hsx : x / size < rows.length := by
      rw [Nat.div_lt_iff_lt_mul hsz1.1, hNN2.out]
      exact hlsz.out
     have hxm : x % size < size := Nat.mod_lt _ hsz1.1
     have hw4 : wrap64 ((x : Int) / (size : Int)) = ((x / size : Nat) : Int) := w_div (Nat.le_trans (Nat.le_of_lt hsx) (Nat.le_trans hn (by decide)))
     obtain ⟨sx, hsx2⟩ : ∃ sx : Nat, Aside0 (x / size = sx) := ⟨_, ⟨rfl⟩⟩
     simp only [hsx2.out] at hw4 hsx
     go_wp2_with fail
     simp only [hw4]
     clear hw4 k1
     have hE := below_alloc (Below.refl wo.heap.size wo) (.cells #[] 2)
     have hR6 := hR.step hE
     have hr0 : SR (wo.alloc (.cells #[] 2)) wo.heap.size (.slice (some ⟨wo.heap.size, 0, none⟩) 0 0) [] := sr_zero wo _ (Nat.le_refl _)
     have hr6 := Kd.R_lower hr0 (Below.size hR.bel)
     have hfr : Clear (Value.slice (some ⟨wo.heap.size, 0, none⟩) 0 0) (Value.slice (some ⟨gT, 0, none⟩) NN cT) (Value.slice (some ad) li.length c7) hs := by
      intro k hk
      cases hk
      exact ⟨fun e => by have := Kd.R_lt hR.tab _ e.symm; simp only at this; omega, fun e => by have := Kd.R_lt hR.lst _ e.symm; simp only at this; omega, fun h hh e => absurd (hR.lt hh hR.len) (by rw [e]; exact Nat.lt_irrefl _)⟩
     have hfr2 := Aside0.mk hfr
     clear hfr hE hr0
     go_loopg [7, 11, 12] wd (fun kq v7 v11 v12 wq => ∃ (c : Nat) (li2 m : List Nat) (tab2 : List Int) (A7 : Option Addr) (c7 : Nat) (Ar : Option Addr) (cr : Nat) (r : List Int), v7 = .slice A7 li2.length c7 ∧ v11 = .slice Ar r.length cr ∧ v12 = .int .i64 (c : Int) ∧ Aside0 (kq = wd - c) ∧ c ≤ wd ∧ Aside0 (r.length = c) ∧ Aside0 (Tab NN li2 tab2) ∧ Aside0 (li2 = li ++ m) ∧ Aside0 (RowOk (nxR rows size en) li2 x r) ∧
      Aside0 (Clear (Value.slice Ar r.length cr) (Value.slice (some ⟨gT, 0, none⟩) NN cT) (Value.slice A7 li2.length c7) hs) ∧ Aside0 (SR wq w.heap.size (.slice Ar r.length cr) r) ∧
      Aside0 (Rt w gp #[.int .i64 tapes, .int .i64 start, .slice AA accs.length ca, .slice AN rows.length cn] tapes gV (.slice (some ⟨gT, 0, none⟩) NN cT) tab2 (.slice A7 li2.length c7) (ints li2) vA ((li.take i).map (fun x => accs.getD (x / size) false)) vN hs rws wd wq))
     case atStart => exact ⟨0, li, [], tab, _, _, _, _, [], rfl, rfl, rfl, ⟨by simp⟩, Nat.zero_le _, ⟨rfl⟩, hTab, ⟨by simp⟩, ⟨fun c hc => by cases hc⟩, hfr2, ⟨hr6⟩, ⟨hR6⟩⟩
     case round =>
      clear hr6 hR6 hfr2 hTab
      obtain ⟨c, li2, m, tab2, A7, c7, Ar, cr, r, rfl, rfl, rfl, hkc, hcw, hrc, hTab, hlm, hro, hfr, hr, hQ⟩ := hrel
      replace hr := hr.out
      replace hQ := hQ.out
      have hil2 : i < li2.length := by rw [hlm.out, List.length_append]; omega
      have hlx : Aside0 (li2[i] = x) := ⟨by
       have h := get_app m hxi.out
       rw [← hlm.out, List.getElem?_eq_getElem hil2] at h
       exact Option.some.inj h⟩
      obtain ⟨a7, rfl, e1⟩ := sr_at' hQ.lst (i := i) (by rw [ints_length]; exact hil2)
      rw [ints_get li2 i _ hil2, hlx.out] at e1
      have e0 : wr.cell? ⟨gp, 0, none⟩ = some (.int .i64 tapes) := (blk_cell hQ.bP 0).trans rfl
      by_cases hc : c < wd
      ·have hlt2 : ((c : Int) < (wd : Int)) = True := eq_true (by omega)
       go_wp2_with (go_at_call 53; (with_reducible refine (hwide _).mono ?_); rintro e w4 ⟨rfl, hb4⟩; replace hQ := hQ.step hb4; replace hr := Kd.R_below hr hb4; clear e0 e1)
       have e0 : w4.cell? ⟨gp, 0, none⟩ = some (.int .i64 tapes) := (blk_cell hQ.bP 0).trans rfl
       have e1 : w4.cell? (a7.add i) = some (.int .i64 (x : Int)) := by
        obtain ⟨ad, e, k⟩ := sr_at' hQ.lst (i := i) (by rw [ints_length]; exact hil2)
        cases e
        rw [ints_get li2 i _ hil2, hlx.out] at k
        exact k
       have hi2 : ((i : Int) < (li2.length : Int)) = True := eq_true (by omega)
       have hsz0 : (size = 0) = False := eq_false (by omega)
       have htm : Int.tmod (x : Int) (size : Int) = ((x % size : Nat) : Int) := rfl
       have hQd := hQ.step (below_drew1 (Below.refl _ _))
       have hrd := Kd.R_below hr (below_drew1 (Below.refl _ _))
       refine start_ (n := 13) (S := fun w' => w'.cell? ⟨gp, 0, none⟩ = some (.int .i64 tapes) ∧ w'.cell? (a7.add i) = some (.int .i64 (x : Int))) (ds := []) (.replicate 13 false) (by kernel_rfl) rfl rfl (⟨e0, e1⟩) (fun hHeld => ?_)
       refine pure_ (i := 0) (N := some 86) (v := ?_) (a' := ?_) (zb 13 1) rfl rfl (by kernel_rfl) (fun _ _ _ h => h) (Or.inl ⟨by rfl, ?_⟩) ?_ ?_
       rotate_left
       ·intro w'
        go_simp
        with_reducible rfl
       rotate_left
       ·simp only [Act.put, Za, Zb, Zc, i64_w, i32_w]
        rfl
       refine pure_ (i := 1) (N := some 87) (v := ?_) (a' := ?_) (zb 13 3) rfl rfl (by kernel_rfl) (fun _ _ _ h => h) (Or.inl ⟨by rfl, ?_⟩) ?_ ?_
       rotate_left
       ·intro w'
        go_simp
        with_reducible rfl
       rotate_left
       ·simp only [Act.put, Za, Zb, Zc, i64_w, i32_w]
        rfl
       refine pure_ (i := 2) (N := some 88) (v := ?_) (a' := ?_) (zb 13 7) rfl rfl (by kernel_rfl) (fun _ _ _ h => h) (Or.inl ⟨by rfl, ?_⟩) ?_ ?_
       rotate_left
       ·intro w'
        go_simp
        with_reducible rfl
       rotate_left
       ·simp only [Act.put, Za, Zb, Zc, i64_w, i32_w]
        rfl
       refine pure_ (i := 4) (N := some 90) (v := ?_) (a' := ?_) (zb 13 23) rfl rfl (by kernel_rfl) (fun _ _ _ h => h) (Or.inl ⟨by rfl, ?_⟩) ?_ ?_
       rotate_left
       ·intro w'
        go_simp
        with_reducible rfl
       rotate_left
       ·simp only [Act.put, Za, Zb, Zc, i64_w, i32_w]
        rfl
       refine pure_ (i := 5) (N := some 91) (v := ?_) (a' := ?_) (zb 13 55) rfl rfl (by kernel_rfl) (fun _ _ _ h => h) (Or.inl ⟨by rfl, ?_⟩) ?_ ?_
       rotate_left
       ·intro w'
        go_simp
        with_reducible rfl
       rotate_left
       ·simp only [Act.put, Za, Zb, Zc, i64_w, i32_w]
        rfl
       refine pure_ (i := 6) (N := some 92) (v := ?_) (a' := ?_) (zb 13 119) rfl rfl (by kernel_rfl) (fun _ _ _ h => h) (Or.inl ⟨by rfl, ?_⟩) ?_ ?_
       rotate_left
       ·intro w'
        go_simp
        with_reducible rfl
       rotate_left
       ·simp only [Act.put, Za, Zb, Zc, i64_w, i32_w]
        rfl
       refine pure_ (i := 8) (N := some 94) (v := ?_) (a' := ?_) (zb 13 375) rfl rfl (by kernel_rfl) (fun _ _ _ h => h) (Or.inl ⟨by rfl, ?_⟩) ?_ ?_
       rotate_left
       ·intro w'
        go_simp
        with_reducible rfl
       rotate_left
       ·simp only [Act.put, Za, Zb, Zc, i64_w, i32_w]
        rfl
       refine pure_ (i := 10) (N := some 96) (v := ?_) (a' := ?_) (zb 13 1399) rfl rfl (by kernel_rfl) (fun _ _ _ h => h) (Or.inl ⟨by rfl, ?_⟩) ?_ ?_
       rotate_left
       ·intro w'
        go_simp
        with_reducible rfl
       rotate_left
       ·simp only [Act.put, Za, Zb, Zc, i64_w, i32_w]
        rfl
       refine take_ (i := 3) (N := some 89) (v := ?_) (a' := ?_) (zb 13 1407) rfl rfl (by kernel_rfl) (fun _ _ _ h => h) (Or.inl ⟨by rfl, ?_⟩) hHeld ?_ ?_
       rotate_left
       ·rintro w' ⟨s1, s2⟩
        go_simp
        with_reducible rfl
       rotate_left
       ·simp only [Act.put, Za, Zb, Zc, i64_w, i32_w]
        rfl
       refine take_ (i := 7) (N := some 93) (v := ?_) (a' := ?_) (zb 13 1535) rfl rfl (by kernel_rfl) (fun _ _ _ h => h) (Or.inl ⟨by rfl, ?_⟩) hHeld ?_ ?_
       rotate_left
       ·rintro w' ⟨s1, s2⟩
        go_simp
        with_reducible rfl
       rotate_left
       ·simp only [Act.put, Za, Zb, Zc, i64_w, i32_w]
        rfl
       refine pure_ (i := 9) (N := some 95) (v := ?_) (a' := ?_) (zb 13 2047) rfl rfl (by kernel_rfl) (fun _ _ _ h => h) (Or.inl ⟨by rfl, ?_⟩) ?_ ?_
       rotate_left
       ·intro w'
        go_simp
        with_reducible rfl
       rotate_left
       ·simp only [Act.put, Za, Zb, Zc, i64_w, i32_w]
        rfl
       refine one_ (i := 11) (N := some 97) (zb 13 4095) rfl rfl (by kernel_rfl) (by decide) (fun K hK => ?_)
       refine goes_ Tryd.func104 (by kernel_rfl) rfl #[.int .i64 tapes, .int .i64 ((x % size : Nat) : Int), .int .i64 (c : Int)] (by rfl) rfl rfl (by (try simp only [List.map_toArray, List.map_cons, List.map_nil]); first | done | rfl) ?_
       with_reducible refine (hended _ (x % size) c hxm hc).mono ?_
       rintro e w5 ⟨rfl, hb5⟩
       refine ⟨_, rfl, ?_⟩
       have hQ5 := hQd.step hb5
       have hr5 := Kd.R_below hrd hb5
       refine hK.out _ _ ⟨(blk_cell hQ5.bP 0).trans rfl, by obtain ⟨ad, e, k⟩ := sr_at' hQ5.lst (i := i) (by rw [ints_length]; exact hil2); cases e; rw [ints_get li2 i _ hil2, hlx.out] at k; exact k⟩ (fun hHeld => ?_)
       clear hK K
       refine norm_ (a' := ?_) ?_ ?_
       rotate_left
       ·show Act.put _ (some 97) _ = _
        simp only [Act.put, Za, Zb, Zc, i64_w, i32_w]
        rfl
       refine pure_ (i := 12) (N := some 13) (v := ?_) (a' := ?_) (zb 13 8191) rfl rfl (by kernel_rfl) (fun _ _ _ h => h) (Or.inl ⟨by rfl, ?_⟩) ?_ ?_
       rotate_left
       ·intro w'
        go_simp
        with_reducible rfl
       rotate_left
       ·simp only [Act.put, Za, Zb, Zc, i64_w, i32_w]
        rfl
       refine done_ (by kernel_rfl) ?_
       have hro2 := hro.out
       have hlr := hrc.out
       cases he : en (x % size) c with
       | none =>
        have hv : enI en (x % size) c = -1 := by unfold enI; rw [he]
        have hnx : nxR rows size en x r.length = none := by unfold nxR; rw [hlr, he]; rfl
        have hro3 := Aside0.mk (hro2.none hnx)
        rw [hv]
        clear he hv hnx hro2
        go_wp2_with ((with_reducible refine gate_builtin (b := .append) (xs := #[.tmp 100, .tmp 101]) rfl ?_); go_loud (at_builtin; refine R_append' (Kd.int .i64) (w0 := w) w.heap.size rfl (.tmp 100) (.tmp 101) 75 2 (.int .i64 0) 8 rfl Tryd.underlying75 info_long rfl (by decide) (by decide) (.slice Ar r.length cr) r (-1) [.int .i64 (-1)] (fun _ => True) (fun _ => False) _ (by simp) rfl rfl rfl (fun _ h => h.elim) (fun _ _ => trivial) hr5 hQ5.bel (Below.size hQ5.bel) (by omega) ?_; intro v6 w6 hR6 hb6 hg6 hat6; obtain ⟨A6, c6, hv6⟩ := Kd.R_slice hR6; subst hv6; obtain ⟨hQ6, hf6⟩ := hQ5.app hr5 hfr.out hg6 hat6 hb6))
        go_roundg (wd - (c + 1))
        case measure => have := hkc.out; omega
        case rel => exact ⟨c + 1, li2, m, tab2, some a7, c7, A6, c6, r ++ [-1], rfl, (by simp [hlr]), (by go_num), ⟨by simp⟩, by omega, ⟨by simp [hlr]⟩, hTab, hlm, hro3, ⟨hf6⟩, ⟨hR6⟩, ⟨hQ6⟩⟩
       | some e' =>
        have hv : enI en (x % size) c = (e' : Int) := by unfold enI; rw [he]
        rw [hv]
        have hee := hen (x % size) c e' hxm hc he
        obtain ⟨ad, rfl, A', c', n1, n2, n3⟩ := at_row (Kd.C_below hN hQ5.bel) sx (by simpa using hsx)
        have er : (rows.map ints)[sx]'(by simpa using hsx) = ints rows[sx] := by simp
        have hrw2 : rows[sx].length = wd := hcl.wide _ (List.getElem_mem hsx)
        rw [er, ints_length, hrw2] at n1 n2 n3
        obtain ⟨a2, rfl, n4⟩ := at_num n3 c (by rw [ints_length]; omega)
        rw [ints_get _ c _ (by omega)] at n4
        have hy : rows[sx][c]'(by omega) < rows.length := hcl.lt _ (List.getElem_mem hsx) _ (List.getElem_mem _)
        have hyt := y_lt hy hNN2.out hee
        have hnx : nxR rows size en x r.length = some (rows[sx][c]'(by omega) * size + e') := by
         unfold nxR
         rw [hlr, he, hsx2.out, List.getD_eq_getElem?_getD (l := rows), List.getElem?_eq_getElem hsx, Option.getD_some, List.getD_eq_getElem?_getD, List.getElem?_eq_getElem (by omega)]
         rfl
        have hw6 := Aside0.mk (w_mul (a := rows[sx][c]'(by omega)) (size := size) rfl (by omega))
        have hw7 := Aside0.mk (w_add (a := rows[sx][c]'(by omega) * size) (b := e') (by omega))
        obtain ⟨t, ht⟩ : ∃ t : Nat, rows[sx][c]'(by omega) * size + e' = t := ⟨_, rfl⟩
        rw [ht] at hw7 hyt hnx
        clear ht hy er
        generalize rows[sx][c]'(by omega) = y at *
        generalize y * size = yz at *
        clear hrw2 hv
        have hs1 : ((sx : Int) < (rows.length : Int)) = True := eq_true (by omega)
        have hs2 : (0 ≤ (sx : Int)) = True := eq_true (by omega)
        have hc2 : (0 ≤ (c : Int)) = True := eq_true (by omega)
        have ht1 : ((t : Int) < (NN : Int)) = True := eq_true (by omega)
        have ht2 : (0 ≤ (t : Int)) = True := eq_true (by omega)
        have g3 : w5.cell? ⟨gp, 3, none⟩ = some (.slice (some ad) rows.length cn) := (blk_cell hQ5.bP 3).trans rfl
        have htl := hTab.out.len
        have kt := sr_at hQ5.tab (i := t) (by omega)
        obtain ⟨hbT, cells, hcT⟩ := row_blk hQ5.tab (by omega)
        have ft : w5.frozen? ⟨gT, t, none⟩ = false := blk_frozen hcT t
        rcases hTab.out.at_ t (by omega) with ⟨hm1, hnm⟩ | ⟨j, hm1, hj⟩
        ·have e1 : tab2[t]'(by omega) = -1 := by rw [List.getElem?_eq_getElem (by omega)] at hm1; exact Option.some.inj hm1
         rw [e1] at kt
         have hle := hTab.out.le
         have hQ6 := hQ5.set hbT t (li2.length : Int)
         have hr6 : SR _ w.heap.size (.slice Ar r.length cr) r := SR.move hr5 (Keep.set w5 ⟨gT, t, none⟩ (.int .i64 (li2.length : Int))) (fun k hk => (hfr.out k hk).1)
         have hTab2 := Aside0.mk (hTab.out.push (x := t) (by omega) hnm)
         have hro3 := Aside0.mk ((hro2.grow [t]).some hnx (j := li2.length) (by simp))
         have hst2 : (tab2.set t (li2.length : Int)).length = NN := by rw [List.length_set, htl]
         have hst3 := Aside0.mk hst2
         have hyt2 := Aside0.mk hyt
         have hil3 : Aside0 (ints (li2 ++ [t]) = ints li2 ++ [(t : Int)]) := ⟨by simp [ints, GwI.ints]⟩
         have hlm2 : Aside0 (li2 ++ [t] = li ++ (m ++ [t])) := ⟨by rw [hlm.out, List.append_assoc]⟩
         clear e1 hm1 hnm hnx hro2 he hcT cells htl hst2 hyt hlr
         have hu6 := hw6.out
         have hu7 := hw7.out
         go_wp2_with (first
          | ((with_reducible refine gate_builtin (b := .append) (xs := #[.tmp 127, .tmp 129]) rfl ?_); go_loud ((try simp only [hu6, hu7]); clear hu6 hu7; at_builtin; refine R_append' (Kd.int .i64) (w0 := w) w.heap.size rfl (.tmp 127) (.tmp 129) 75 2 (.int .i64 0) 8 rfl Tryd.underlying75 info_long rfl (by decide) (by decide) (.slice (some a7) li2.length c7) (ints li2) (t : Int) [.int .i64 (t : Int)] (fun _ => True) (fun _ => False) _ (by simp) rfl rfl rfl (fun _ h => h.elim) (fun _ _ => trivial) hQ6.lst hQ6.bel (Below.size hQ6.bel) (by rw [ints_length]; omega) ?_; intro v7 w7 hR7 hb7 hg7 hat7; obtain ⟨A8, c8, hv7⟩ := Kd.R_slice hR7; rw [← hil3.out] at hR7; have ev : (ints li2 ++ [(t : Int)]).length = li2.length + 1 := (by simp [ints, GwI.ints]); rw [ev] at hv7; subst hv7; have hQ7 := hQ6.push hg7 hat7 hR7 hb7; have hf7 := Clear.push hfr.out hr6 hat7; have hr7 : SR w7 w.heap.size (.slice Ar r.length cr) r := SR.move hr6 (Keep.grown hg7) (fun k hk => (hfr.out k hk).2.1); have kt7 := sr_at hQ7.tab (i := t) (by rw [hst3.out]; exact hyt2.out); rw [List.getElem_set_self] at kt7))
          | ((with_reducible refine gate_builtin (b := .append) (xs := #[.tmp 131, .tmp 136]) rfl ?_); go_loud (at_builtin; refine R_append' (Kd.int .i64) (w0 := w) w.heap.size rfl (.tmp 131) (.tmp 136) 75 2 (.int .i64 0) 8 rfl Tryd.underlying75 info_long rfl (by decide) (by decide) (.slice Ar r.length cr) r (li2.length : Int) [.int .i64 (li2.length : Int)] (fun _ => True) (fun _ => False) _ (by simp) rfl rfl rfl (fun _ h => h.elim) (fun _ _ => trivial) hr7 hQ7.bel (Below.size hQ7.bel) (by have := hrc.out; omega) ?_; intro v6 w6 hR8 hb8 hg8 hat8; obtain ⟨A6, c6, hv6⟩ := Kd.R_slice hR8; subst hv6; obtain ⟨hQ8, hf8⟩ := hQ7.app hr7 hf7 hg8 hat8 hb8)))
         go_roundg (wd - (c + 1))
         case measure => have := hkc.out; omega
         case rel => exact ⟨c + 1, li2 ++ [t], m ++ [t], tab2.set t (li2.length : Int), A8, c8, A6, c6, r ++ [(li2.length : Int)], (by simp), (by simp [hrc.out]), (by go_num), ⟨by simp⟩, by omega, ⟨by simp [hrc.out]⟩, hTab2, hlm2, hro3, ⟨by simpa using hf8⟩, ⟨hR8⟩, ⟨by simpa using hQ8⟩⟩
        ·have e1 : tab2[t]'(by omega) = (j : Int) := by rw [List.getElem?_eq_getElem (by omega)] at hm1; exact Option.some.inj hm1
         rw [e1] at kt
         have hj0 : ((j : Int) < 0) = False := eq_false (by omega)
         have hro3 := Aside0.mk (hro2.some hnx hj)
         clear e1 hm1 hj hnx hro2 he hcT cells htl hyt
         have hu6 := hw6.out
         have hu7 := hw7.out
         go_wp2_with ((with_reducible refine gate_builtin (b := .append) (xs := #[.tmp 131, .tmp 136]) rfl ?_); go_loud (clear hu6 hu7; at_builtin; refine R_append' (Kd.int .i64) (w0 := w) w.heap.size rfl (.tmp 131) (.tmp 136) 75 2 (.int .i64 0) 8 rfl Tryd.underlying75 info_long rfl (by decide) (by decide) (.slice Ar r.length cr) r (j : Int) [.int .i64 (j : Int)] (fun _ => True) (fun _ => False) _ (by simp) rfl rfl rfl (fun _ h => h.elim) (fun _ _ => trivial) hr5 hQ5.bel (Below.size hQ5.bel) (by omega) ?_; intro v6 w6 hR6 hb6 hg6 hat6; obtain ⟨A6, c6, hv6⟩ := Kd.R_slice hR6; subst hv6; obtain ⟨hQ6, hf6⟩ := hQ5.app hr5 hfr.out hg6 hat6 hb6))
         go_roundg (wd - (c + 1))
         case measure => have := hkc.out; omega
         case rel => exact ⟨c + 1, li2, m, tab2, some a7, c7, A6, c6, r ++ [(j : Int)], rfl, (by simp [hlr]), (by go_num), ⟨by simp⟩, by omega, ⟨by simp [hlr]⟩, hTab, hlm, hro3, ⟨hf6⟩, ⟨hR6⟩, ⟨hQ6⟩⟩
      ·have hcc : c = wd := by omega
       subst c
       have hlt2 : ((wd : Int) < (wd : Int)) = False := eq_false (by omega)
       go_wp2_with (go_at_call 53; (with_reducible refine (hwide _).mono ?_); rintro e w4 ⟨rfl, hb4⟩; replace hQ := hQ.step hb4; replace hr := Kd.R_below hr hb4; clear e0 e1)
       generalize w4 = wr at *
       have hsa : sx < accs.length := by rw [← hlen.out]; exact hsx
       obtain ⟨am, rfl, _⟩ := at_mark hA sx hsa
       obtain ⟨bx, hbx⟩ : ∃ bx : Bool, Aside0 (accs[sx] = bx) := ⟨_, ⟨rfl⟩⟩
       have hsa1 : ((sx : Int) < (accs.length : Int)) = True := eq_true (by omega)
       have hsa2 : (0 ≤ (sx : Int)) = True := eq_true (by omega)
       have hQd := hQ.step (below_drew1 (Below.refl _ _))
       have hrd := Kd.R_below hr (below_drew1 (Below.refl _ _))
       have hSS : ∀ W' tab vL li vA' bs vN hs rws, Rt w gp #[.int .i64 tapes, .int .i64 start, .slice (some am) accs.length ca, .slice AN rows.length cn] tapes gV (.slice (some ⟨gT, 0, none⟩) NN cT) tab vL li vA' bs vN hs rws wd W' → W'.cell? ⟨gV, 2, none⟩ = some vA' ∧ W'.cell? ⟨gp, 2, none⟩ = some (.slice (some am) accs.length ca) ∧ W'.cell? (am.add sx) = some (.bool bx) := by
        intro W' tab vL li vA' bs vN hs rws h
        obtain ⟨a9, e9, k9⟩ := at_mark (Kd.C_below hA h.bel) sx hsa
        cases e9
        exact ⟨(blk_cell h.bV 2).trans rfl, (blk_cell h.bP 2).trans rfl, by rw [k9, hbx.out]⟩
       refine start_ (n := 13) (S := fun w' => w'.cell? ⟨gV, 2, none⟩ = some vA ∧ w'.cell? ⟨gp, 2, none⟩ = some (.slice (some am) accs.length ca) ∧ w'.cell? (am.add sx) = some (.bool bx)) (ds := [12]) (.replicate 13 false) (by kernel_rfl) rfl rfl (hSS _ _ _ _ _ _ _ _ _ hQd) (fun hHeld => ?_)
       refine pure_ (i := 0) (N := some 138) (v := ?_) (a' := ?_) (zb 13 1) rfl rfl (by kernel_rfl) (fun _ _ _ h => h) (Or.inl ⟨by rfl, ?_⟩) ?_ ?_
       rotate_left
       ·intro w'
        go_simp
        with_reducible rfl
       rotate_left
       ·simp only [Act.put, Za, Zb, Zc, i64_w, i32_w]
        rfl
       refine pure_ (i := 2) (N := some 140) (v := ?_) (a' := ?_) (zb 13 5) rfl rfl (by kernel_rfl) (fun _ _ _ h => h) (Or.inl ⟨by rfl, ?_⟩) ?_ ?_
       rotate_left
       ·intro w'
        go_simp
        with_reducible rfl
       rotate_left
       ·simp only [Act.put, Za, Zb, Zc, i64_w, i32_w]
        rfl
       refine pure_ (i := 3) (N := some 141) (v := ?_) (a' := ?_) (zb 13 13) rfl rfl (by kernel_rfl) (fun _ _ _ h => h) (Or.inl ⟨by rfl, ?_⟩) ?_ ?_
       rotate_left
       ·intro w'
        go_simp
        with_reducible rfl
       rotate_left
       ·simp only [Act.put, Za, Zb, Zc, i64_w, i32_w]
        rfl
       refine pure_ (i := 4) (N := some 142) (v := ?_) (a' := ?_) (zb 13 29) rfl rfl (by kernel_rfl) (fun _ _ _ h => h) (Or.inl ⟨by rfl, ?_⟩) ?_ ?_
       rotate_left
       ·intro w'
        go_simp
        with_reducible rfl
       rotate_left
       ·simp only [Act.put, Za, Zb, Zc, i64_w, i32_w]
        rfl
       refine pure_ (i := 6) (N := some 144) (v := ?_) (a' := ?_) (zb 13 93) rfl rfl (by kernel_rfl) (fun _ _ _ h => h) (Or.inl ⟨by rfl, ?_⟩) ?_ ?_
       rotate_left
       ·intro w'
        go_simp
        with_reducible rfl
       rotate_left
       ·simp only [Act.put, Za, Zb, Zc, i64_w, i32_w]
        rfl
       refine take_ (i := 1) (N := some 139) (v := ?_) (a' := ?_) (zb 13 95) rfl rfl (by kernel_rfl) (fun _ _ _ h => h) (Or.inl ⟨by rfl, ?_⟩) hHeld ?_ ?_
       rotate_left
       ·rintro w' ⟨s1, s2, s3⟩
        go_simp
        with_reducible rfl
       rotate_left
       ·simp only [Act.put, Za, Zb, Zc, i64_w, i32_w]
        rfl
       refine take_ (i := 5) (N := some 143) (v := ?_) (a' := ?_) (zb 13 127) rfl rfl (by kernel_rfl) (fun _ _ _ h => h) (Or.inl ⟨by rfl, ?_⟩) hHeld ?_ ?_
       rotate_left
       ·rintro w' ⟨s1, s2, s3⟩
        go_simp
        with_reducible rfl
       rotate_left
       ·simp only [Act.put, Za, Zb, Zc, i64_w, i32_w]
        rfl
       refine pure_ (i := 7) (N := some 145) (v := ?_) (a' := ?_) (zb 13 255) rfl rfl (by kernel_rfl) (fun _ _ _ h => h) (Or.inl ⟨by rfl, ?_⟩) ?_ ?_
       rotate_left
       ·intro w'
        go_simp
        with_reducible rfl
       rotate_left
       ·simp only [Act.put, Za, Zb, Zc, i64_w, i32_w]
        rfl
       refine take_ (i := 8) (N := some 146) (v := ?_) (a' := ?_) (zb 13 511) rfl rfl (by kernel_rfl) (fun _ _ _ h => h) (Or.inl ⟨by rfl, ?_⟩) hHeld ?_ ?_
       rotate_left
       ·rintro w' ⟨s1, s2, s3⟩
        go_simp
        with_reducible rfl
       rotate_left
       ·simp only [Act.put, Za, Zb, Zc, i64_w, i32_w]
        rfl
       refine one_ (i := 9) (N := some 147) (zb 13 1023) rfl rfl (by kernel_rfl) (by decide) (fun K hK => ?_)
       refine value_ (w1 := wr.drew.alloc (.cells #[.bool bx] 4)) (v := .slice (some ⟨wr.drew.heap.size, 0, none⟩) 1 1) (by rfl) rfl (by first | (go_simp; done) | (go_simp; rfl)) ?_
       have hQ5 := hQd.step (below_alloc (Below.refl _ _) (.cells #[.bool bx] 4))
       refine hK.out _ _ (hSS _ _ _ _ _ _ _ _ _ hQ5) (fun hHeld => ?_)
       clear hK K
       refine norm_ (a' := ?_) ?_ ?_
       rotate_left
       ·show Act.put _ (some 147) _ = _
        simp only [Act.put, Za, Zb, Zc, i64_w, i32_w]
        rfl
       refine one_ (i := 10) (N := some 148) (zb 13 2047) rfl rfl (by kernel_rfl) (by decide) (fun K hK => ?_)
       refine Kd.R_append_step Kd.bool (w0 := w) w.heap.size (by rfl) (.tmp 139) (.tmp 147) 22 4 (.bool false) 1 rfl Tryd.underlying22 GwI.info_bool rfl (by decide) (by decide) vA ((li.take i).map (fun x => accs.getD (x / size) false)) bx [.bool bx] (fun _ => True) (fun _ => False) rfl rfl rfl (fun _ h => h.elim) (fun _ _ => trivial) hQd.acc hQd.bel (Below.size hQd.bel) (by simp <;> omega) ?_
       intro v6 w6 hR6 hb6 hg6 hat6
       obtain ⟨A6, c6, hv6⟩ := Kd.R_slice hR6
       subst hv6
       obtain ⟨b26, hQ6⟩ := hQd.mark hVs.out hgV.out hg6 hR6 hb6
       have hr6 : SR w6 w.heap.size _ r := R_off hrd (Keep.grown hg6) (Off.row hQd.acc (by decide))
       obtain ⟨a9, e9, k9⟩ := at_mark (Kd.C_below hA hb6) sx hsa
       cases e9
       refine hK.out _ _ ⟨(blk_cell b26 2).trans rfl, by have h := (Keep.grown hg6).obj hQd.bP (off_ne hQd.bP (Off.row hQd.acc (by decide))); exact (blk_cell h 2).trans rfl, by rw [k9, hbx.out]⟩ (fun hHeld => ?_)
       clear hK K
       refine norm_ (a' := ?_) ?_ ?_
       rotate_left
       ·show Act.put _ (some 148) _ = _
        simp only [Act.put, Za, Zb, Zc, i64_w, i32_w]
        rfl
       refine pure_ (i := 11) (N := some 149) (v := ?_) (a' := ?_) (zb 13 4095) rfl rfl (by kernel_rfl) (fun _ _ _ h => h) (Or.inl ⟨by rfl, ?_⟩) ?_ ?_
       rotate_left
       ·intro w'
        go_simp
        with_reducible rfl
       rotate_left
       ·simp only [Act.put, Za, Zb, Zc, i64_w, i32_w]
        rfl
       refine last_ (i := 12) (N := none) (zb 13 8191) rfl rfl (by kernel_rfl) (by decide) (fun K hK => ?_)
       have hf6 : w6.frozen? ⟨gV, 2, none⟩ = false := blk_frozen b26 2
       have hc6 : w6.cell? ⟨gV, 2, none⟩ = some vA := (blk_cell b26 2).trans rfl
       refine skip_ (w1 := w6.setCell ⟨gV, 2, none⟩ (.slice A6 (((li.take i).map (fun x => accs.getD (x / size) false)) ++ [bx]).length c6)) (by rfl) rfl (by first | (go_simp; done) | (go_simp; rfl)) ?_
       refine hK.out _ _ ?_
       clear hK K
       refine done_ (by kernel_rfl) ?_
       have hr7 : SR (w6.setCell ⟨gV, 2, none⟩ (.slice A6 (((li.take i).map (fun x => accs.getD (x / size) false)) ++ [bx]).length c6)) w.heap.size _ r := R_off hr6 (Keep.set w6 ⟨gV, 2, none⟩ _) (Off.cells b26 (by decide))
       clear hSS hQd hrd hQ5 hf6 hc6 b26 hr6 hR6 hb6 hg6 hHeld k9 hQ hr
       generalize w6.setCell ⟨gV, 2, none⟩ (.slice A6 (((li.take i).map (fun x => accs.getD (x / size) false)) ++ [bx]).length c6) = w7 at *
       have c3 : w7.cell? ⟨gV, 3, none⟩ = some vN := (blk_cell hQ6.bV 3).trans rfl
       obtain ⟨g0, cap, ev, hg0, hg1, _⟩ := Kd.R_form hr7 (by have := hrc.out; omega)
       cases ev
       have hrcw := hrc.out
       rw [hrcw] at hr7
       simp only [hrcw]
       have hfr3 := hfr.out g0 rfl
       have hfr4 := Aside0.mk hfr3
       clear hfr3 hfr
       have hrc2 := Aside0.mk hrcw
       have hhl : hs.length = i := by rw [hQ6.len]; exact hrl.out
       have hhl2 := Aside0.mk hhl
       clear hrcw hhl
       go_wp2_with ((with_reducible refine gate_builtin (b := .append) (xs := #[.tmp 151, .tmp 153]) rfl ?_); go_loud (at_builtin; refine R_append' (hk wd) (w0 := w) w.heap.size rfl (.tmp 151) (.tmp 153) 23 75 (.slice none 0 0) 24 rfl Tryd.underlying23 info_longs rfl (show 0 < 1 from Nat.one_pos) (by decide) vN hs (g0, cr) [.slice (some ⟨g0, 0, none⟩) wd cr] (fun _ => True) (fun _ => False) _ (by simp) rfl rfl rfl (fun _ h => h.elim) (fun _ _ => trivial) hQ6.out hQ6.bel (Below.size hQ6.bel) (by have := hhl2.out; omega) ?_; intro v8 w8 hR8 hb8 hg8 hat8; obtain ⟨A8, c8, hv8⟩ := Kd.R_slice hR8; have ev8 : (hs ++ [(g0, cr)]).length = hs.length + 1 := (by simp); rw [ev8] at hv8; clear ev8; subst hv8; obtain ⟨b8, hQ8⟩ := hQ6.row hVs.out hgV.out hg8 hR8 hb8 hr7 ⟨hfr4.out.1, hfr4.out.2.1⟩ hfr4.out.2.2; have c83 : w8.cell? ⟨gV, 3, none⟩ = some vN := (blk_cell b8 3).trans rfl; have f83 : w8.frozen? ⟨gV, 3, none⟩ = false := blk_frozen b8 3))
       go_roundg (NN - (i + 1))
       case measure => have := hkq.out; omega
       case rel => exact ⟨i + 1, li2, tab2, some a7, c7, _, _, hs ++ [(g0, cr)], rws ++ [r], rfl, (by go_num), ⟨by simp⟩, by omega, hTab, ⟨by rw [hlm.out]; exact get_app m hli0.out⟩, ⟨by simp [hrl.out]⟩, ⟨fun q hq => (List.mem_append.1 hq).elim (hrw.out q) (fun h => by rw [List.mem_singleton.1 h]; exact hrc2.out)⟩, ⟨oks_step hlm.out hrl.out hlt hxi.out hok.out hro.out⟩, ⟨by rw [take_step hlm.out hlt hxi.out, List.map_append, List.map_singleton, hsx2.out, List.getD_eq_getElem?_getD (l := accs), List.getElem?_eq_getElem hsa, Option.getD_some, hbx.out]; exact hQ8⟩⟩
    ·have hii : i = li.length := by omega
     subst hii
     have hlt1 : ((li.length : Int) < (li.length : Int)) = False := eq_false (by omega)
     have hli := hTab.out.le
     have hhl : hs.length = li.length := by rw [hR.len]; exact hrl.out
     obtain ⟨AN2, cN2, rfl⟩ := Kd.R_slice hR.out
     rw [hhl] at hR
     have hhl2 := Aside0.mk hhl
     clear hhl
     go_wp2_with fail
     go_loopg [16] li.length (fun kq v16 wr => ∃ k : Nat, v16 = .int .i64 (k : Int) ∧ Aside0 (kq = li.length - k) ∧ k ≤ li.length ∧ Aside0 (Rt w gp #[.int .i64 tapes, .int .i64 start, .slice AA accs.length ca, .slice AN rows.length cn] tapes gV (.slice (some ⟨gT, 0, none⟩) NN cT) tab (.slice A7 li.length c7) (ints li) vA ((li.take li.length).map (fun x => accs.getD (x / size) false)) (.slice AN2 li.length cN2) hs (fixTo li.length k rws) wd wr))
     case atStart => exact ⟨0, rfl, ⟨by simp⟩, Nat.zero_le _, ⟨by simpa [fixTo] using hR⟩⟩
     case round =>
      clear hR
      obtain ⟨wb, rfl⟩ : ∃ wb : World, wb = wr := ⟨_, rfl⟩
      obtain ⟨k, rfl, hkk, hkl, hB⟩ := hrel
      replace hB := hB.out
      have c3 : wb.cell? ⟨gV, 3, none⟩ = some (.slice AN2 li.length cN2) := (blk_cell hB.bV 3).trans rfl
      by_cases hkt : k < li.length
      ·have hlt2 : ((k : Int) < (li.length : Int)) = True := eq_true (by omega)
       have h0k : (0 ≤ (k : Int)) = True := eq_true (by omega)
       have hk1 : k < hs.length := by rw [hhl2.out]; exact hkt
       have hk2 : k < rws.length := by rw [hrl.out]; exact hkt
       obtain ⟨a, ha⟩ : ∃ a, hs[k]? = some a := ⟨_, List.getElem?_eq_getElem hk1⟩
       obtain ⟨r, hr⟩ : ∃ r, rws[k]? = some r := ⟨_, List.getElem?_eq_getElem hk2⟩
       have hrw2 : Aside0 (r.length = wd) := ⟨hrw.out r (List.mem_of_getElem? hr)⟩
       have hag : Aside0 (w.heap.size ≤ a.1) := ⟨(row_blk (hB.inn k a _ ha (fixTo_get hr)) (by have := hrw2.out; omega)).1⟩
       have ha2 := Aside0.mk ha
       have hr2 := Aside0.mk hr
       have hst0 : rowTo li.length 0 r = r := by simp [rowTo]
       have hB0 : (fixTo li.length k rws).set k (rowTo li.length 0 r) = fixTo li.length k rws := by
        rw [hst0]
        have h := fixTo_get (L := li.length) hr
        obtain ⟨h1, h2⟩ := List.getElem?_eq_some_iff.1 h
        rw [← h2]
        exact List.set_getElem_self h1
       have hB1 := Aside0.mk hB0
       clear hB0 hst0 ha hr hk1 hk2
       go_wp2_with fail
       clear c3
       go_loopg [17] wd (fun kq v17 wq => ∃ c : Nat, v17 = .int .i64 (c : Int) ∧ Aside0 (kq = wd - c) ∧ c ≤ wd ∧ Aside0 (Rt w gp #[.int .i64 tapes, .int .i64 start, .slice AA accs.length ca, .slice AN rows.length cn] tapes gV (.slice (some ⟨gT, 0, none⟩) NN cT) tab (.slice A7 li.length c7) (ints li) vA ((li.take li.length).map (fun x => accs.getD (x / size) false)) (.slice AN2 li.length cN2) hs ((fixTo li.length k rws).set k (rowTo li.length c r)) wd wq))
       case atStart => exact ⟨0, rfl, ⟨by simp⟩, Nat.zero_le _, ⟨by rw [hB1.out]; exact hB⟩⟩
       case round =>
        obtain ⟨c, rfl, hkc, hcw, hQ⟩ := hrel
        replace hQ := hQ.out
        obtain ⟨an, rfl, kh⟩ := hQ.head ha2.out
        unfold encH at kh
        have c3 : wr.cell? ⟨gV, 3, none⟩ = some (.slice (some an) li.length cN2) := (blk_cell hQ.bV 3).trans rfl
        by_cases hcl : c < wd
        ·have hcr : c < r.length := by rw [hrw2.out]; exact hcl
         have hk3 : k < (fixTo li.length k rws).length := by rw [fixTo_length]; exact (List.getElem?_eq_some_iff.1 hr2.out).1
         have hset : ((fixTo li.length k rws).set k (rowTo li.length c r))[k]? = some (rowTo li.length c r) := List.getElem?_set_self hk3
         have hrow := hQ.inn k a _ ha2.out hset
         have ke := sr_at hrow (i := c) (by rw [rowTo_length]; exact hcr)
         rw [rowTo_get hcr] at ke
         obtain ⟨_, cells, hcell⟩ := row_blk hrow (by rw [rowTo_length]; omega)
         have fe : wr.frozen? ⟨a.1, c, none⟩ = false := blk_frozen hcell c
         have hcl1 : ((c : Int) < (wd : Int)) = True := eq_true (by omega)
         have h0c : (0 ≤ (c : Int)) = True := eq_true (by omega)
         by_cases hneg : r[c] < 0
         ·have hQ2 := hQ.fix ha2.out hset hag.out c (li.length : Int)
          have e5 : (rowTo li.length c r).set c (li.length : Int) = rowTo li.length (c + 1) r := by
           rw [rowTo_step hcr]
           unfold fixE
           rw [if_pos hneg]
          rw [List.set_set, e5] at hQ2
          have hn1 : (r[c] < 0) = True := eq_true hneg
          clear hset hrow hcell cells e5 hneg hk3
          generalize r[c] = ec at *
          clear hcr
          go_wp2_with fail
          go_roundg (wd - (c + 1))
          case measure => have := hkc.out; omega
          case rel => exact ⟨c + 1, (by go_num), ⟨by simp⟩, by omega, ⟨hQ2⟩⟩
         ·have hn1 : (r[c] < 0) = False := eq_false hneg
          rw [← rowTo_same hcr (by omega)] at hQ
          clear hset hrow hcell cells hneg hk3
          generalize r[c] = ec at *
          clear hcr
          go_wp2_with fail
          go_roundg (wd - (c + 1))
          case measure => have := hkc.out; omega
          case rel => exact ⟨c + 1, (by go_num), ⟨by simp⟩, by omega, ⟨hQ⟩⟩
        ·have hcc : c = wd := by omega
         subst hcc
         have hlt3 : ((c : Int) < (c : Int)) = False := eq_false (by omega)
         have hfin : (fixTo li.length k rws).set k (rowTo li.length c r) = fixTo li.length (k + 1) rws := by
          rw [← fixTo_set hr2.out]
          congr 1
          unfold rowTo
          rw [List.take_of_length_le (Nat.le_of_eq hrw2.out), List.drop_of_length_le (Nat.le_of_eq hrw2.out), List.append_nil]
         rw [hfin] at hQ
         clear hfin
         go_wp2_with fail
         go_roundg (li.length - (k + 1))
         case measure => have := hkk.out; omega
         case rel => exact ⟨k + 1, (by go_num), ⟨by simp⟩, by omega, ⟨hQ⟩⟩
      ·have hkk2 : k = li.length := by omega
       subst hkk2
       have hlt2 : ((li.length : Int) < (li.length : Int)) = False := eq_false (by omega)
       have hB2 := hB.step (below_alloc (Below.refl _ _) (.cells #[] 2))
       have hr6 := sr_zero wb w.heap.size (Below.size hB.bel)
       have hcl0 : Clear (.slice (some ⟨wb.heap.size, 0, none⟩) 0 0) (.slice (some ⟨gT, 0, none⟩) NN cT) (.slice A7 li.length c7) hs := by
        intro k hk
        cases hk
        exact ⟨fun e => by have := Kd.R_lt hB.tab _ e.symm; simp only at this; omega, fun e => by have := Kd.R_lt hB.lst _ e.symm; simp only at this; omega, fun h hh e => absurd (hB.lt hh hB.len) (by rw [e]; exact Nat.lt_irrefl _)⟩
       go_wp2_with fail
       clear c3
       go_loopg [18, 19] wd (fun kq v18 v19 wq => ∃ (c : Nat) (Ar : Option Addr) (cr : Nat), v18 = .slice Ar c cr ∧ v19 = .int .i64 (c : Int) ∧ Aside0 (kq = wd - c) ∧ c ≤ wd ∧ Aside0 (Clear (.slice Ar c cr) (.slice (some ⟨gT, 0, none⟩) NN cT) (.slice A7 li.length c7) hs) ∧ Aside0 (SR wq w.heap.size (.slice Ar c cr) (List.replicate c (li.length : Int))) ∧
        Aside0 (Rt w gp #[.int .i64 tapes, .int .i64 start, .slice AA accs.length ca, .slice AN rows.length cn] tapes gV (.slice (some ⟨gT, 0, none⟩) NN cT) tab (.slice A7 li.length c7) (ints li) vA ((li.take li.length).map (fun x => accs.getD (x / size) false)) (.slice AN2 li.length cN2) hs (fixTo li.length li.length rws) wd wq))
       case atStart => exact ⟨0, _, _, rfl, rfl, ⟨by simp⟩, Nat.zero_le _, ⟨hcl0⟩, ⟨hr6⟩, ⟨hB2⟩⟩
       case round =>
        clear hcl0 hr6 hB2 hB
        obtain ⟨c, Ar, cr, rfl, rfl, hkc, hcw, hfr, hr, hQ⟩ := hrel
        replace hQ := hQ.out
        replace hr := hr.out
        have e0 : wr.cell? ⟨gp, 0, none⟩ = some (.int .i64 tapes) := (blk_cell hQ.bP 0).trans rfl
        by_cases hc : c < wd
        ·have hlt3 : ((c : Int) < (wd : Int)) = True := eq_true (by omega)
         go_wp2_with (first
          | (go_at_call 53; (with_reducible refine (hwide _).mono ?_); rintro e w4 ⟨rfl, hb4⟩; replace hQ := hQ.step hb4; replace hr := Kd.R_below hr hb4; clear e0)
          | ((with_reducible refine gate_builtin (b := .append) (xs := #[.tmp 202, .tmp 204]) rfl ?_); go_loud (at_builtin; refine R_append' (Kd.int .i64) (w0 := w) w.heap.size rfl (.tmp 202) (.tmp 204) 75 2 (.int .i64 0) 8 rfl Tryd.underlying75 info_long rfl (by decide) (by decide) (.slice Ar c cr) (List.replicate c (li.length : Int)) (li.length : Int) [.int .i64 (li.length : Int)] (fun _ => True) (fun _ => False) _ (by simp) rfl rfl rfl (fun _ h => h.elim) (fun _ _ => trivial) hr hQ.bel (Below.size hQ.bel) (by simp <;> omega) ?_; intro v6 w6 hR6 hb6 hg6 hat6; obtain ⟨A6, c6, hv6⟩ := Kd.R_slice hR6; have ev : (List.replicate c (li.length : Int) ++ [(li.length : Int)]).length = c + 1 := (by simp); rw [ev] at hv6; clear ev; subst hv6; obtain ⟨hQ6, hf6⟩ := hQ.app hr hfr.out hg6 hat6 hb6; rw [← List.replicate_succ'] at hR6)))
         go_roundg (wd - (c + 1))
         case measure => have := hkc.out; omega
         case rel => exact ⟨c + 1, A6, c6, rfl, (by go_num), ⟨by simp⟩, by omega, ⟨hf6⟩, ⟨hR6⟩, ⟨hQ6⟩⟩
        ·have hcc : c = wd := by omega
         subst hcc
         have hlt3 : ((c : Int) < (c : Int)) = False := eq_false (by omega)
         rw [List.take_length] at hQ
         obtain ⟨A2, cA2, rfl⟩ := Kd.R_slice hQ.acc
         rw [List.length_map] at hQ
         obtain ⟨g0, cap, ev, hg0, _, _⟩ := Kd.R_form hr (by simp; omega)
         rw [List.length_replicate] at ev
         cases ev
         have hfr3 := Aside0.mk (hfr.out g0 rfl)
         go_wp2_with (first
          | (go_at_call 53; (with_reducible refine (hwide _).mono ?_); rintro e w4 ⟨rfl, hb4⟩; replace hQ := hQ.step hb4; replace hr := Kd.R_below hr hb4; clear e0; have c2 : w4.cell? ⟨gV, 2, none⟩ = some (.slice A2 li.length cA2) := (blk_cell hQ.bV 2).trans rfl)
          | ((with_reducible refine gate_builtin (b := .append) (xs := #[.tmp 207, .tmp 208]) rfl ?_); go_loud (at_builtin; refine R_append' Kd.bool (w0 := w) w.heap.size rfl (.tmp 207) (.tmp 208) 22 4 (.bool false) 1 rfl Tryd.underlying22 GwI.info_bool rfl (by decide) (by decide) (.slice A2 li.length cA2) (li.map (fun x => accs.getD (x / size) false)) false [.bool false] (fun _ => True) (fun _ => False) _ (by simp) rfl rfl rfl (fun _ h => h.elim) (fun _ _ => trivial) hQ.acc hQ.bel (Below.size hQ.bel) (by rw [List.length_map]; omega) ?_; intro v6 w6 hR6 hb6 hg6 hat6; obtain ⟨A6, c6, hv6⟩ := Kd.R_slice hR6; have ev : (li.map (fun x => accs.getD (x / size) false) ++ [false]).length = li.length + 1 := (by simp); rw [ev] at hv6; clear ev; subst hv6; obtain ⟨b26, hQ6⟩ := hQ.mark hVs.out hgV.out hg6 hR6 hb6; have hr6 : SR w6 w.heap.size _ _ := R_off hr (Keep.grown hg6) (Off.row hQ.acc (by decide)); have hr7 : SR (w6.setCell ⟨gV, 2, none⟩ (.slice A6 (li.length + 1) c6)) w.heap.size _ _ := R_off hr6 (Keep.set w6 ⟨gV, 2, none⟩ _) (Off.cells b26 (by decide)); have c26 : w6.cell? ⟨gV, 2, none⟩ = some (.slice A2 li.length cA2) := (blk_cell b26 2).trans rfl; have f26 : w6.frozen? ⟨gV, 2, none⟩ = false := blk_frozen b26 2; have c33 : (w6.setCell ⟨gV, 2, none⟩ (.slice A6 (li.length + 1) c6)).cell? ⟨gV, 3, none⟩ = some (.slice AN2 li.length cN2) := (blk_cell hQ6.bV 3).trans rfl))
          | ((with_reducible refine gate_builtin (b := .append) (xs := #[.tmp 212, .tmp 214]) rfl ?_); go_loud (at_builtin; refine R_append' (hk c) (w0 := w) w.heap.size rfl (.tmp 212) (.tmp 214) 23 75 (.slice none 0 0) 24 rfl Tryd.underlying23 info_longs rfl (show 0 < 1 from Nat.one_pos) (by decide) (.slice AN2 li.length cN2) hs (g0, cr) [.slice (some ⟨g0, 0, none⟩) c cr] (fun _ => True) (fun _ => False) _ (by simp) rfl rfl rfl (fun _ h => h.elim) (fun _ _ => trivial) hQ6.out hQ6.bel (Below.size hQ6.bel) (by have := hhl2.out; omega) ?_; intro v8 w8 hR8 hb8 hg8 hat8; obtain ⟨A8, c8, hv8⟩ := Kd.R_slice hR8; have ev8 : (hs ++ [(g0, cr)]).length = li.length + 1 := (by simp [hhl2.out]); rw [ev8] at hv8; clear ev8; subst hv8; obtain ⟨b8, hQ8⟩ := hQ6.row hVs.out hgV.out hg8 hR8 hb8 hr7 ⟨hfr3.out.1, hfr3.out.2.1⟩ hfr3.out.2.2; have c83 : w8.cell? ⟨gV, 3, none⟩ = some (.slice AN2 li.length cN2) := (blk_cell b8 3).trans rfl; have f83 : w8.frozen? ⟨gV, 3, none⟩ = false := blk_frozen b8 3; have d0 : (w8.setCell ⟨gV, 3, none⟩ (.slice A8 (li.length + 1) c8)).cell? ⟨gV, 0, none⟩ = some (.int .i64 tapes) := (blk_cell hQ8.bV 0).trans rfl; have d1 : (w8.setCell ⟨gV, 3, none⟩ (.slice A8 (li.length + 1) c8)).cell? ⟨gV, 1, none⟩ = some (.int .i64 0) := (blk_cell hQ8.bV 1).trans rfl; have d2 : (w8.setCell ⟨gV, 3, none⟩ (.slice A8 (li.length + 1) c8)).cell? ⟨gV, 2, none⟩ = some (.slice A6 (li.length + 1) c6) := (blk_cell hQ8.bV 2).trans rfl; have d3 : (w8.setCell ⟨gV, 3, none⟩ (.slice A8 (li.length + 1) c8)).cell? ⟨gV, 3, none⟩ = some (.slice A8 (li.length + 1) c8) := (blk_cell hQ8.bV 3).trans rfl; have e0 : (w8.setCell ⟨gV, 3, none⟩ (.slice A8 (li.length + 1) c8)).cell? ⟨w.heap.size, 0, none⟩ = some (.int .i64 0) := (blk_cell hQ8.bR 0).trans rfl; have f0 : (w8.setCell ⟨gV, 3, none⟩ (.slice A8 (li.length + 1) c8)).frozen? ⟨w.heap.size, 0, none⟩ = false := blk_frozen hQ8.bR 0; have e1 : (w8.setCell ⟨gV, 3, none⟩ (.slice A8 (li.length + 1) c8)).cell? ⟨w.heap.size, 1, none⟩ = some (.int .i64 0) := (blk_cell hQ8.bR 1).trans rfl; have f1 : (w8.setCell ⟨gV, 3, none⟩ (.slice A8 (li.length + 1) c8)).frozen? ⟨w.heap.size, 1, none⟩ = false := blk_frozen hQ8.bR 1; have e2 : (w8.setCell ⟨gV, 3, none⟩ (.slice A8 (li.length + 1) c8)).cell? ⟨w.heap.size, 2, none⟩ = some (.slice none 0 0) := (blk_cell hQ8.bR 2).trans rfl; have f2 : (w8.setCell ⟨gV, 3, none⟩ (.slice A8 (li.length + 1) c8)).frozen? ⟨w.heap.size, 2, none⟩ = false := blk_frozen hQ8.bR 2; have e3 : (w8.setCell ⟨gV, 3, none⟩ (.slice A8 (li.length + 1) c8)).cell? ⟨w.heap.size, 3, none⟩ = some (.slice none 0 0) := (blk_cell hQ8.bR 3).trans rfl; have f3 : (w8.setCell ⟨gV, 3, none⟩ (.slice A8 (li.length + 1) c8)).frozen? ⟨w.heap.size, 3, none⟩ = false := blk_frozen hQ8.bR 3)))
         have b := hQ8.bR
         have b1 := blk_put b 0 (.int .i64 tapes) rfl
         have b2 := blk_put b1 1 (.int .i64 0) rfl
         have b3 := blk_put b2 2 (.slice A6 (li.length + 1) c6) rfl
         have b5 := blk_put b3 3 (.slice A8 (li.length + 1) c8) rfl
         refine bodyPost_ret (results_cell_row rfl _ _ (w.heap.size) 27 #[.int .i64 tapes, .int .i64 0, .slice A6 (li.length + 1) c6, .slice A8 (li.length + 1) c8] (0, 0) _ rfl b5 Tryd.underlying27 rfl (by kernel_rfl)) rfl ⟨_, _, li, rws, rfl, ?_, ?_, by rw [hS02.out]; exact hli0.out, hrl.out, hrw.out, hok.out, fun x hx => by rw [hNN2.out]; exact hTab.out.lt x hx, by rw [hNN2.out]; exact hTab.out.le, ?_⟩
         ·exact Kd.R_set (Kd.R_set (Kd.R_set (Kd.R_set hQ8.acc b (by decide) 0 _) b1 (by decide) 1 _) b2 (by decide) 2 _) b3 (by decide) 3 _
         ·exact Kd.R_set (Kd.R_set (Kd.R_set (Kd.R_set hQ8.rows b (by decide) 0 _) b1 (by decide) 1 _) b2 (by decide) 2 _) b3 (by decide) 3 _
         ·exact (((hQ8.bel.setCell (Nat.le_refl _) _).setCell (Nat.le_refl _) _).setCell (Nat.le_refl _) _).setCell (Nat.le_refl _) _
end Go.Proofs.YtnjdkhnepmmfgaaDoor.Rg
namespace Go.Proofs.YtnjdkhnepmmfgaaDoor.Tw
set_option linter.unusedVariables false
set_option linter.unusedSimpArgs false
open Go.RowKit Go.Proofs.YtnjdkhnepmmfgaaDoorW.PrintWords Go.Proofs.YtnjdkhnepmmfgaaDoorW.PrintLast Go.Proofs.YtnjdkhnepmmfgaaDoorW.PrintMore Mp Kp Mg Tdy Rg
def grpTo (accs : List Bool) (i : Nat) : List Nat := (first accs).take i ++ List.replicate (accs.length - i) 0
theorem grpTo_length (accs : List Bool) {i : Nat} (h : i ≤ accs.length) : (grpTo accs i).length = accs.length := by
 have : (first accs).length = accs.length := by simp [first]
 unfold grpTo
 rw [List.length_append, List.length_take, List.length_replicate]
 omega
theorem grpTo_all (accs : List Bool) : grpTo accs accs.length = first accs := by
 have : (first accs).length = accs.length := by simp [first]
 unfold grpTo
 rw [List.take_of_length_le (by omega)]
 simp
theorem first_len (accs : List Bool) : (first accs).length = accs.length := by simp [first]
theorem grpTo_zero (accs : List Bool) : grpTo accs 0 = List.replicate accs.length 0 := by simp [grpTo]
theorem grpTo_step (accs : List Bool) {i : Nat} (hi : i < accs.length) : grpTo accs (i + 1) = if accs[i] then (grpTo accs i).set i 1 else grpTo accs i := first_step accs hi rfl
def kyF (g : List Nat) (q : Nat) : Nat := g.getD q 0
def nxF (rows : List (List Nat)) (q c : Nat) : Nat := (rows.getD q []).getD c 0
def acF (accs : List Bool) (q : Nat) : Bool := accs.getD q false
theorem nxF_get {rows : List (List Nat)} {q c : Nat} (h : q < rows.length) (h2 : c < rows[q].length) : nxF rows q c = rows[q][c] := by simp [nxF, List.getD_eq_getElem?_getD, h, h2]
theorem kyF_get {g : List Nat} {q : Nat} (h : q < g.length) : kyF g q = g[q] := by simp [kyF, List.getD_eq_getElem?_getD, h]
theorem acF_get {accs : List Bool} {q : Nat} (h : q < accs.length) : acF accs q = accs[q] := by simp [acF, List.getD_eq_getElem?_getD, h]
theorem tab_find {key : Nat → Nat} {N : Nat} {li : List Nat} {tab : List Int} (h : Tab N (li.map key) tab) {t : Nat} (ht : key t < N) :
  (find key (key t) li = none ∧ tab[key t]? = some (-1) ∧ key t ∉ li.map key) ∨ ∃ j : Nat, find key (key t) li = some j ∧ tab[key t]? = some (j : Int) ∧ j < li.length := by
 rcases h.at_ _ ht with ⟨h1, h2⟩ | ⟨j, h1, h2⟩
 ·refine .inl ⟨?_, h1, h2⟩
  cases hf : find key (key t) li with
  | none => rfl
  | some j =>
   obtain ⟨hj, e⟩ := find_some hf
   exact absurd (List.mem_map.2 ⟨li[j], List.getElem_mem hj, e⟩) h2
 ·refine .inr ⟨j, ?_, h1, ?_⟩
  ·cases hf : find key (key t) li with
   | none =>
    obtain ⟨s, hs, e⟩ := List.mem_map.1 (List.mem_of_getElem? h2)
    exact absurd e (find_none hf s hs)
   | some j' =>
    obtain ⟨hj, e⟩ := find_some hf
    obtain ⟨hjl, e2⟩ := List.getElem?_eq_some_iff.1 h2
    have hnd := List.pairwise_iff_getElem.1 h.nodup
    have e3 : (li.map key)[j']'(by rw [List.length_map]; exact hj) = (li.map key)[j] := by rw [e2, List.getElem_map]; exact e
    rcases Nat.lt_trichotomy j' j with hlt | heq | hlt
    ·exact absurd e3 (hnd j' j (by rw [List.length_map]; exact hj) hjl hlt)
    ·rw [heq]
    ·exact absurd e3.symm (hnd j j' hjl (by rw [List.length_map]; exact hj) hlt)
  ·have := (List.getElem?_eq_some_iff.1 h2).1
   rwa [List.length_map] at this
theorem tab_push {key : Nat → Nat} {N : Nat} {li : List Nat} {tab : List Int} (h : Tab N (li.map key) tab) {t : Nat} (ht : key t < N) (hn : key t ∉ li.map key) : Tab N ((li ++ [t]).map key) (tab.set (key t) (li.length : Int)) := by
 have := h.push ht hn
 rwa [List.length_map, ← List.map_singleton, ← List.map_append] at this
theorem tab_le {key : Nat → Nat} {N : Nat} {li : List Nat} {tab : List Int} (h : Tab N (li.map key) tab) : li.length ≤ N := by
 have := h.le
 rwa [List.length_map] at this
theorem S_off {α : Type} {d : Kd α} {e : Nat} {W W' : World} {base : Nat} {ok : Nat → Prop} {v : Value} {xs : List α} {x : Option Nat} (h : Kd.S d e W base ok v xs) (hk : Keep W W' x) (ho : Off W x (e :: d.E)) : Kd.S d e W' base ok v xs :=
 Kd.S_mono (Kd.S_move (Kd.S_bound h) (fun k hk' => hk.blk k hk'.2.2.1 (fun he => by
  obtain ⟨_, _, _, q, hq, cells, hc⟩ := hk'
  exact ho k he.symm cells q hq hc))) (fun _ hk => hk.1)
theorem S_keepx {α : Type} {d : Kd α} {e : Nat} {W W' : World} {base : Nat} {ok : Nat → Prop} {v : Value} {xs : List α} {x : Option Nat} (h : Kd.S d e W base (fun k => ok k ∧ some k ≠ x) v xs) (hk : Keep W W' x) : Kd.S d e W' base (fun k => ok k ∧ some k ≠ x) v xs :=
 Kd.S_step h (fun k hk' hlt => hk.blk k hlt hk'.2)
theorem S_append' {P : Program} {ops : Array Oper} {rest : List Oper} {o : Oper} {a : Act} {Q : Exit → Act → World → Prop} {α : Type} (d : Kd α) {w0 W : World} (base : Nat) (hgd : o.guard = none) (s x : Operand) (t e : TypeId) (z : Value) (bytes : Nat)
  (ho : o.op = .call { callee := .builtin .append, args := #[s, x], argTypes := #[t, t] })
  (ht : P.underlying t = some (.slice e)) (hinfo : (P.info? e).map (fun i => (i.zero, i.size, i.bytes)) = some (some z, d.sz, bytes)) (hz : z.cells.size = d.sz) (hs0 : 0 < d.sz) (hb0 : 0 < bytes)
  (v : Value) (xs : List α) (p : α) (cs : List Value) (ok okp : Nat → Prop) (b : Nat) (hbs : b = W.heap.size) (hs : a.eval s = v) (hx : a.eval x = .slice (some ⟨b, 0, none⟩) 1 1) (hp : d.M W base okp p cs) (hokp : ∀ k, okp k → ok k ∧ some k ≠ v.ownBlock) (hfresh : ∀ k, W.heap.size ≤ k → ok k)
  (HO : Kd.S d e W base (fun k => ok k ∧ ¬ okp k) v xs) (HB : Below base w0 W) (hbase : base ≤ W.heap.size) (hl : (xs.length + 1) * bytes ≤ 140737488355328)
  (h : ∀ v1 w1, Kd.S d e w1 base ok v1 (xs ++ [p]) → Below base w0 w1 → W.grownBy w1 v.ownBlock → (v1.ownBlock = v.ownBlock ∨ ∃ b, v1.ownBlock = some b ∧ W.heap.size ≤ b) → wpList P ops Q rest (a.put o.dst v1) w1) :
  wpList P ops Q (o :: rest) a (W.alloc (.cells cs.toArray e)) := by
 subst hbs
 exact Kd.S_append d base hgd s x t e z bytes ho ht hinfo hz hs0 hb0 v xs p cs ok okp hs hx hp hokp hfresh HO HB hbase hl h
/-- What stands in memory while the machine is made: the new relation, the table, the list, the row. All of it is newer than w0. -/
structure Tt (w0 : World) (tapes : Int) (gV gT nT cT : Nat) (tab : List Int) (vL : Value) (li : List Nat) (vr : Value) (r : List Nat) (vA : Value) (bs : List Bool) (vN : Value) (rws : List (List Nat)) (W : World) : Prop where
 bV : W.heap[gV]? = some (.cells #[.int .i64 tapes, .int .i64 0, vA, vN] 27 (0, 0))
 tab : SR W w0.heap.size (.slice (some ⟨gT, 0, none⟩) nT cT) tab
 lst : SR W w0.heap.size vL (ints li)
 row : SR W w0.heap.size vr (ints r)
 acc : Kd.R Kd.bool 4 W w0.heap.size (fun _ => True) vA bs
 out : Kd.S (Kd.slice 2 (Kd.int .i64)) 75 W w0.heap.size (fun k => k ≠ gT ∧ some k ≠ vL.ownBlock ∧ some k ≠ vr.ownBlock) vN (rws.map ints)
 tl : some gT ≠ vL.ownBlock
 tr : some gT ≠ vr.ownBlock
 lr : ∀ k, vL.ownBlock = some k → some k ≠ vr.ownBlock
 hV : w0.heap.size ≤ gV
 bel : Below w0.heap.size w0 W
section
variable {w0 : World} {tapes : Int} {gV gT nT cT : Nat} {tab : List Int} {vL : Value} {li : List Nat} {vr : Value} {r : List Nat} {vA : Value} {bs : List Bool} {vN : Value} {rws : List (List Nat)} {W W' : World}
theorem Tt.step (h : Tt w0 tapes gV gT nT cT tab vL li vr r vA bs vN rws W) (hb : Below W.heap.size W W') : Tt w0 tapes gV gT nT cT tab vL li vr r vA bs vN rws W' :=
 ⟨blk_below h.bV hb, Kd.R_below h.tab hb, Kd.R_below h.lst hb, Kd.R_below h.row hb, Kd.R_below h.acc hb, Kd.S_below h.out hb, h.tl, h.tr, h.lr, h.hV, below_step h.bel hb⟩
/-- The table is written. -/
theorem Tt.set (h : Tt w0 tapes gV gT nT cT tab vL li vr r vA bs vN rws W) (hg : w0.heap.size ≤ gT) (i : Nat) (x : Int) : Tt w0 tapes gV gT nT cT (tab.set i x) vL li vr r vA bs vN rws (W.setCell ⟨gT, i, none⟩ (.int .i64 x)) := by
 have hk := Keep.set W ⟨gT, i, none⟩ (.int .i64 x)
 have hy : ∀ E : List Nat, (∀ q ∈ E, q ≠ 2) → Off W (some gT) E := fun E hE => Off.row h.tab hE
 have ho := S_keepx (x := some gT) (ok := fun k => k ≠ gT ∧ some k ≠ vL.ownBlock ∧ some k ≠ vr.ownBlock) (Kd.S_mono h.out (fun k hk => ⟨hk, fun e => hk.1 (Option.some.inj e)⟩)) hk
 exact ⟨hk.obj h.bV (off_ne h.bV (hy _ (by decide))), Kd.R_putn h.tab (i : Int) x, h.lst.move hk (fun k e e2 => by cases e2; exact h.tl e.symm), h.row.move hk (fun k e e2 => by cases e2; exact h.tr e.symm), R_off h.acc hk (hy _ (by decide)), Kd.S_mono ho (fun k hk => hk.1), h.tl, h.tr, h.lr, h.hV, h.bel.setCell hg _⟩
/-- A block of numbers that is written is none of the others. -/
theorem Tt.out_after (h : Tt w0 tapes gV gT nT cT tab vL li vr r vA bs vN rws W) {v v1 : Value} (hg : W.grownBy W' v.ownBlock) (hat : v1.ownBlock = v.ownBlock ∨ ∃ b, v1.ownBlock = some b ∧ W.heap.size ≤ b) {p : Nat → Prop} (hp : ∀ k, k ≠ gT ∧ some k ≠ vL.ownBlock ∧ some k ≠ vr.ownBlock → p k ∧ some k ≠ v.ownBlock) :
  Kd.S (Kd.slice 2 (Kd.int .i64)) 75 W' w0.heap.size (fun k => p k ∧ some k ≠ v1.ownBlock) vN (rws.map ints) := Kd.S_after (Kd.S_mono h.out hp) hg hat
/-- The list gets one more. -/
theorem Tt.push {v1 : Value} {x : Nat} (h : Tt w0 tapes gV gT nT cT tab vL li vr r vA bs vN rws W) (hgT : gT < W.heap.size) (hg : W.grownBy W' vL.ownBlock) (hat : v1.ownBlock = vL.ownBlock ∨ ∃ b, v1.ownBlock = some b ∧ W.heap.size ≤ b) (hR : SR W' w0.heap.size v1 (ints li ++ [(x : Int)])) (hb : Below w0.heap.size w0 W') : Tt w0 tapes gV gT nT cT tab v1 (li ++ [x]) vr r vA bs vN rws W' := by
 have hk := Keep.grown hg
 have hy : ∀ E : List Nat, (∀ q ∈ E, q ≠ 2) → Off W vL.ownBlock E := fun E hE => Off.row h.lst hE
 refine ⟨hk.obj h.bV (off_ne h.bV (hy _ (by decide))), h.tab.move hk (fun k e e2 => by cases e; exact h.tl e2), by simpa [ints, GwI.ints] using hR, h.row.move hk (fun k e e2 => h.lr k e2.symm e.symm), R_off h.acc hk (hy _ (by decide)), Kd.S_mono (h.out_after hg hat (p := fun k => k ≠ gT ∧ some k ≠ vr.ownBlock) (fun k hk => ⟨⟨hk.1, hk.2.2⟩, hk.2.1⟩)) (fun k hk => ⟨hk.1.1, hk.2, hk.1.2⟩), ne_after hat hgT h.tl, h.tr, fun k hk e => ?_, h.hV, hb⟩
 rcases hat with ha | ⟨b, ha, hbl⟩
 ·exact h.lr k (by rw [← ha]; exact hk) e
 ·rw [ha] at hk
  cases hk
  have := Kd.R_lt h.row _ e.symm
  omega
/-- The row gets one more. -/
theorem Tt.more {v1 : Value} {x : Nat} (h : Tt w0 tapes gV gT nT cT tab vL li vr r vA bs vN rws W) (hgT : gT < W.heap.size) (hg : W.grownBy W' vr.ownBlock) (hat : v1.ownBlock = vr.ownBlock ∨ ∃ b, v1.ownBlock = some b ∧ W.heap.size ≤ b) (hR : SR W' w0.heap.size v1 (ints r ++ [(x : Int)])) (hb : Below w0.heap.size w0 W') : Tt w0 tapes gV gT nT cT tab vL li v1 (r ++ [x]) vA bs vN rws W' := by
 have hk := Keep.grown hg
 have hy : ∀ E : List Nat, (∀ q ∈ E, q ≠ 2) → Off W vr.ownBlock E := fun E hE => Off.row h.row hE
 exact ⟨hk.obj h.bV (off_ne h.bV (hy _ (by decide))), h.tab.move hk (fun k e e2 => by cases e; exact h.tr e2), h.lst.move hk (fun k e e2 => h.lr k e e2), by simpa [ints, GwI.ints] using hR, R_off h.acc hk (hy _ (by decide)), Kd.S_mono (h.out_after hg hat (p := fun k => k ≠ gT ∧ some k ≠ vL.ownBlock) (fun k hk => ⟨⟨hk.1, hk.2.1⟩, hk.2.2⟩)) (fun k hk => ⟨hk.1.1, hk.1.2, hk.2⟩), h.tl, ne_after hat hgT h.tr, fun k hk => ne_after hat (Kd.R_lt h.lst _ hk) (h.lr k hk), h.hV, hb⟩
/-- A new row is begun. -/
theorem Tt.begin (h : Tt w0 tapes gV gT nT cT tab vL li (.slice none 0 0) [] vA bs vN rws W) (hgT : gT < W.heap.size) : Tt w0 tapes gV gT nT cT tab vL li (.slice (some ⟨W.heap.size, 0, none⟩) 0 0) [] vA bs vN rws (W.alloc (.cells #[] 2)) := by
 have h1 := h.step (below_alloc (Below.refl _ _) (.cells #[] 2))
 refine ⟨h1.bV, h1.tab, h1.lst, sr_zero W _ (Below.size h.bel), h1.acc, ?_, h.tl, fun e => ?_, fun k hk e => ?_, h.hV, h1.bel⟩
 ·exact Kd.S_mono (Kd.S_below (Kd.S_bound h.out) (below_alloc (Below.refl _ _) _)) (fun k hk => ⟨hk.1.1, hk.1.2.1, fun e => by have h3 := hk.2.2.1; have h4 : k = W.heap.size := Option.some.inj e; omega⟩)
 ·have h4 : gT = W.heap.size := Option.some.inj e
  omega
 ·have h3 := Kd.R_lt h.lst _ hk
  have h4 : k = W.heap.size := Option.some.inj e
  omega
/-- A mark is put behind the marks. -/
theorem Tt.mark {v1 : Value} {bs' : List Bool} (h : Tt w0 tapes gV gT nT cT tab vL li vr r vA bs vN rws W) (hg : W.grownBy W' vA.ownBlock) (hR : Kd.R Kd.bool 4 W' w0.heap.size (fun _ => True) v1 bs') (hb : Below w0.heap.size w0 W') :
  W'.heap[gV]? = some (.cells #[.int .i64 tapes, .int .i64 0, vA, vN] 27 (0, 0)) ∧ Tt w0 tapes gV gT nT cT tab vL li vr r v1 bs' vN rws (W'.setCell ⟨gV, 2, none⟩ v1) := by
 have hk := Keep.grown hg
 have hy : ∀ E : List Nat, (∀ q ∈ E, q ≠ 4) → Off W vA.ownBlock E := fun E hE => Off.row h.acc hE
 have bV := hk.obj h.bV (off_ne h.bV (hy _ (by decide)))
 refine ⟨bV, ?_⟩
 have hs := Keep.set W' ⟨gV, 2, none⟩ v1
 have p : ∀ E : List Nat, (∀ q ∈ E, q ≠ 27) → Off W' (some gV) E := fun E hE => Off.cells bV hE
 have mv : ∀ {v : Value} {xs : List Int}, SR W w0.heap.size v xs → SR (W'.setCell ⟨gV, 2, none⟩ v1) w0.heap.size v xs := fun h => R_off (R_off h hk (hy _ (by decide))) hs (p _ (by decide))
 exact ⟨blk_put bV 2 v1 rfl, mv h.tab, mv h.lst, mv h.row, R_off hR hs (p _ (by decide)), S_off (S_off h.out hk (hy _ (by decide))) hs (p _ (by decide)), h.tl, h.tr, h.lr, h.hV, hb.setCell h.hV _⟩
/-- The row is put behind the rows. -/
theorem Tt.nxt {v1 : Value} (h : Tt w0 tapes gV gT nT cT tab vL li vr r vA bs vN rws W) (hg : W.grownBy W' vN.ownBlock) (hR : Kd.S (Kd.slice 2 (Kd.int .i64)) 75 W' w0.heap.size (fun k => k ≠ gT ∧ some k ≠ vL.ownBlock) v1 (rws.map ints ++ [ints r])) (hb : Below w0.heap.size w0 W') :
  W'.heap[gV]? = some (.cells #[.int .i64 tapes, .int .i64 0, vA, vN] 27 (0, 0)) ∧ Tt w0 tapes gV gT nT cT tab vL li (.slice none 0 0) [] vA bs v1 (rws ++ [r]) (W'.setCell ⟨gV, 3, none⟩ v1) := by
 have hk := Keep.grown hg
 have hy : ∀ E : List Nat, (∀ q ∈ E, q ≠ 75) → Off W vN.ownBlock E := fun E hE => Off.row (Kd.S_R h.out) hE
 have bV := hk.obj h.bV (off_ne h.bV (hy _ (by decide)))
 refine ⟨bV, ?_⟩
 have hs := Keep.set W' ⟨gV, 3, none⟩ v1
 have p : ∀ E : List Nat, (∀ q ∈ E, q ≠ 27) → Off W' (some gV) E := fun E hE => Off.cells bV hE
 have mv : ∀ {v : Value} {xs : List Int}, SR W w0.heap.size v xs → SR (W'.setCell ⟨gV, 3, none⟩ v1) w0.heap.size v xs := fun h => R_off (R_off h hk (hy _ (by decide))) hs (p _ (by decide))
 exact ⟨blk_put bV 3 v1 rfl, mv h.tab, mv h.lst, Kd.R_nil _ _ _ _ _, R_off (R_off h.acc hk (hy _ (by decide))) hs (p _ (by decide)), Kd.S_mono (ok := fun k => k ≠ gT ∧ some k ≠ vL.ownBlock) (S_off (by simpa using hR) hs (p _ (by decide))) (fun k hk => ⟨hk.1, hk.2, fun e => by cases e⟩), h.tl, (fun e => by cases e), (fun k _ e => by cases e), h.hV, hb.setCell h.hV _⟩
end
end Go.Proofs.YtnjdkhnepmmfgaaDoor.Tw
namespace Go.Proofs.YtnjdkhnepmmfgaaDoor.Tw
set_option linter.unusedVariables false
set_option linter.unusedSimpArgs false
open Go.RowKit Go.Proofs.YtnjdkhnepmmfgaaDoorW.PrintWords Go.Proofs.YtnjdkhnepmmfgaaDoorW.PrintLast Go.Proofs.YtnjdkhnepmmfgaaDoorW.PrintMore Mp Kp Mg Tdy Rg
set_option maxHeartbeats 8000000 in
set_option maxRecDepth 100000 in
theorem tidied (tapes start : Int) (accs0 : List Bool) (rows0 : List (List Int)) (wd : Nat) (hwd1 : 0 < wd) (hwd2 : wd ≤ 30)
  (w : World) (gp : Nat) (AA : Option Addr) (ca : Nat) (AN : Option Addr) (cn : Nat) (hP : w.heap[gp]? = some (.cells #[.int .i64 tapes, .int .i64 start, .slice AA accs0.length ca, .slice AN rows0.length cn] 27 (0, 0)))
  (PP : List Bool → List (List Nat) → Prop)
  (hright : ∀ W, Below w.heap.size w W → Calls Tryd.prog 79 #[.pointer (some ⟨gp, 0, none⟩)] W fun e W' => ∃ (accs : List Bool) (rows : List (List Nat)), PP accs rows ∧ ∃ (vA vN : Value), e = .returned (.agg #[.int .i64 tapes, .int .i64 0, vA, vN]) ∧
   Kd.R Kd.bool 4 W' W.heap.size (fun _ => True) vA accs ∧ Kd.R (Kd.slice 2 (Kd.int .i64)) 75 W' W.heap.size (fun _ => True) vN (rows.map ints) ∧ Below W.heap.size W W')
  (hfin0 : ∀ (accs : List Bool) (rows : List (List Nat)), PP accs rows → ∀ (W : World) (gx : Nat) (A2 : Option Addr) (c2 : Nat) (A3 : Option Addr) (c3 : Nat) (A1 : Option Addr) (c1 : Nat) (g : List Nat), W.heap[gx]? = some (.cells #[.int .i64 tapes, .int .i64 0, .slice A2 accs.length c2, .slice A3 rows.length c3] 27 (0, 0)) → Kd.C Kd.bool W A2 accs.length accs → accs.length ≤ c2 → Kd.C (Kd.slice 2 (Kd.int .i64)) W A3 rows.length (rows.map ints) → rows.length ≤ c3 → Kd.C (Kd.int .i64) W A1 g.length (ints g) → g.length ≤ c1 → g.length = rows.length →
   Calls Tryd.prog 80 #[.pointer (some ⟨gx, 0, none⟩), .slice A1 g.length c1] W fun e W' => ∃ v0 : Value, e = .returned (.tuple #[v0, .int .i64 ((number (keys rows g) []).2.length : Int)]) ∧ (Kd.int .i64).R 2 W' W.heap.size (fun _ => True) v0 (ints (number (keys rows g) []).1) ∧ Below W.heap.size W W')
  (bs : List Bool) (rws : List (List Nat))
  (hPf : ∀ (accs : List Bool) (rows : List (List Nat)), PP accs rows → Closed wd rows accs ∧ rows.length ≤ 1000000 ∧ 0 < rows.length ∧ ∃ f1 g f2 m, classes rows f1 (first accs) 0 = some g ∧ byState wd rows g 0 f2 = some (some (m, rws)) ∧ m.map (fun q => accs.getD q false) = bs) :
  Calls Tryd.prog 39 #[.pointer (some ⟨gp, 0, none⟩)] w fun e w' => ∃ (vA vN : Value), e = .returned (.agg #[.int .i64 tapes, .int .i64 0, vA, vN]) ∧
   Kd.R Kd.bool 4 w' w.heap.size (fun _ => True) vA bs ∧ Kd.S (Kd.slice 2 (Kd.int .i64)) 75 w' w.heap.size (fun _ => True) vN (rws.map ints) ∧ Below w.heap.size w w' := by
 have hgp := blk_lt hP
 go_enter Tryd.func39, Tryd.ntmps39
 go_wp2_with (first
  | (go_at_call 79; go_loud (with_reducible refine (hright _ (below_alloc (Below.refl _ _) _)).mono ?_; rintro e w1 ⟨accs, rows, hPP, vA, vN, rfl, r1, r2, hb1⟩; obtain ⟨hcl, hn, hn0, f1, g, f2, m, hc0, hb0, hbs0⟩ := hPf _ _ hPP; have hlen := Aside0.mk hcl.len; have hcls := Aside0.mk hc0; have hnA : accs.length ≤ 1000000 := (by rw [← hcl.len]; exact hn); have hb2 := Aside0.mk hb0; have hbss := Aside0.mk hbs0; clear hc0 hb0 hbs0; have hfin := hfin0 accs rows hPP; clear hfin0 hPf hPP; obtain ⟨A1, c1, rfl, hc1, hC1⟩ := Kd.R_reads r1; obtain ⟨A2, c2, rfl, hc2, hC2⟩ := Kd.R_reads r2; simp only [List.length_map] at hc2 hC2))
  | ((with_reducible refine gate_dst (N := 22) rfl ?_); go_loud (
    have bR1 := blk_below (blk_new w (.cells #[.int .i64 0, .int .i64 0, .slice none 0 0, .slice none 0 0] 27)) hb1
    have bP1 := blk_below (blk_alloc hP (.cells #[.int .i64 0, .int .i64 0, .slice none 0 0, .slice none 0 0] 27)) hb1
    have hB1 := below_step (below_alloc (Below.refl w.heap.size w) (.cells #[.int .i64 0, .int .i64 0, .slice none 0 0, .slice none 0 0] 27)) hb1
    obtain ⟨wA, hWA⟩ : ∃ wA : World, wA = w1.alloc (.cells #[.int .i64 tapes, .int .i64 0, .slice A1 accs.length c1, .slice A2 rows.length c2] 27) := ⟨_, rfl⟩
    have fX : wA.heap[w1.heap.size]? = some (.cells #[.int .i64 tapes, .int .i64 0, .slice A1 accs.length c1, .slice A2 rows.length c2] 27 (0, 0)) := by rw [hWA]; exact blk_new _ _
    have fR : wA.heap[w.heap.size]? = some (.cells #[.int .i64 0, .int .i64 0, .slice none 0 0, .slice none 0 0] 27 (0, 0)) := by rw [hWA]; exact blk_alloc bR1 _
    have fP : wA.heap[gp]? = some (.cells #[.int .i64 tapes, .int .i64 start, .slice AA accs0.length ca, .slice AN rows0.length cn] 27 (0, 0)) := by rw [hWA]; exact blk_alloc bP1 _
    have cA : Kd.C Kd.bool wA A1 accs.length accs := by rw [hWA]; exact Kd.C_below hC1 (below_alloc (Below.refl _ _) _)
    have cN : Kd.C (Kd.slice 2 (Kd.int .i64)) wA A2 rows.length (rows.map ints) := by rw [hWA]; exact Kd.C_below hC2 (below_alloc (Below.refl _ _) _)
    have bA : Below w.heap.size w wA := by rw [hWA]; exact below_alloc hB1 _
    rw [← hWA]
    generalize w1.heap.size = gX at *
    clear hWA bR1 bP1 hB1 hC1 hC2 r1 r2 hb1
    refine Kd.R_make (Kd.int .i64) (w0 := wA) wA.heap.size 2 rfl (N := 22) rfl 75 _ _ rfl (accs.length : Int) rfl rfl Tryd.underlying75 (.int .i64 0) 8 info_long rfl (by decide) (by decide) (0 : Int) (ok := fun _ => True) (okp := fun _ => False) rfl (fun _ h => h.elim) trivial (by omega) (by have := hlen.out; simp; omega) (Below.refl _ _) (Nat.le_refl _) ?_
    intro v2 w2 hR2 hb2 hg2 hn2
    simp only [Int.toNat_natCast] at hR2
    obtain ⟨gC, cC, hv2, hgC, _, _⟩ := Kd.R_form hR2 (by have := hlen.out; simp; omega)
    subst hv2
    rw [List.length_replicate] at hR2)))
 have hz0 : grpTo accs 0 = List.replicate accs.length 0 := grpTo_zero accs
 have hS2 : SR w2 wA.heap.size (.slice (some ⟨gC, 0, none⟩) accs.length cC) (ints (grpTo accs 0)) := by rw [hz0, ints_replicate]; exact hR2
 clear hz0 hR2 hg2 hn2
 go_loopg [5] accs.length (fun kq v5 wr => ∃ i : Nat, v5 = .int .i64 (i : Int) ∧ Aside0 (kq = accs.length - i) ∧ i ≤ accs.length ∧ Aside0 (Below wA.heap.size wA wr) ∧ Aside0 (SR wr wA.heap.size (.slice (some ⟨gC, 0, none⟩) accs.length cC) (ints (grpTo accs i))))
 case atStart => exact ⟨0, rfl, ⟨by simp⟩, Nat.zero_le _, ⟨hb2⟩, ⟨hS2⟩⟩
 case round =>
  clear hb2 hS2
  obtain ⟨i, rfl, hkq, hil, hb, hS⟩ := hrel
  replace hb := hb.out
  replace hS := hS.out
  have e2 : wr.cell? ⟨gX, 2, none⟩ = some (.slice A1 accs.length c1) := (blk_cell (blk_below fX hb) 2).trans rfl
  by_cases hlt : i < accs.length
  ·have hlt1 : ((i : Int) < (accs.length : Int)) = True := eq_true (by omega)
   have h0i : (0 ≤ (i : Int)) = True := eq_true (by omega)
   obtain ⟨ad, rfl, k1⟩ := at_mark (Kd.C_below cA hb) i hlt
   have hl : (ints (grpTo accs i)).length = accs.length := by rw [ints_length, grpTo_length accs hil]
   obtain ⟨hbT, cells, hcT⟩ := row_blk hS (by rw [hl]; omega)
   have f1 : wr.frozen? ⟨gC, i, none⟩ = false := blk_frozen hcT i
   have k2 := sr_at hS (i := i) (by rw [hl]; exact hlt)
   have hs := grpTo_step accs hlt
   cases hm : accs[i] with
   | false =>
    rw [hm, if_neg (by simp)] at hs
    rw [hm] at k1
    have hS2 : SR wr wA.heap.size (.slice (some ⟨gC, 0, none⟩) accs.length cC) (ints (grpTo accs (i + 1))) := by rw [hs]; exact hS
    clear hs hm hl hcT k2 f1
    go_wp2_with fail
    go_roundg (accs.length - (i + 1))
    case measure => have := hkq.out; omega
    case rel => exact ⟨i + 1, (by go_num), ⟨by simp⟩, by omega, ⟨hb⟩, ⟨hS2⟩⟩
   | true =>
    rw [hm, if_pos rfl] at hs
    rw [hm] at k1
    have hS2 : SR (wr.setCell ⟨gC, i, none⟩ (.int .i64 1)) wA.heap.size (.slice (some ⟨gC, 0, none⟩) accs.length cC) (ints (grpTo accs (i + 1))) := by
     rw [hs, ← ints_set]
     exact Kd.R_putn hS (i : Int) 1
    have hb3 := hb.setCell (p := ⟨gC, i, none⟩) hbT (.int .i64 1)
    generalize (ints (grpTo accs i))[i]'(by rw [hl]; exact hlt) = oi at *
    clear hs hm hl hcT hS hb
    go_wp2_with fail
    go_roundg (accs.length - (i + 1))
    case measure => have := hkq.out; omega
    case rel => exact ⟨i + 1, (by go_num), ⟨by simp⟩, by omega, ⟨hb3⟩, ⟨hS2⟩⟩
  ·have hii : i = accs.length := by omega
   subst i
   have hlt1 : ((accs.length : Int) < (accs.length : Int)) = False := eq_false (by omega)
   rw [grpTo_all] at hS
   go_wp2_with fail
   clear e2
   go_loopg [4, 6] f1 (fun kq v4 v6 wr => ∃ (g' : List Nat) (n' : Nat) (A4 : Option Addr) (c4 : Nat), v4 = .slice A4 g'.length c4 ∧ v6 = .int .i64 (n' : Int) ∧ Aside0 (classes rows kq g' n' = some g) ∧ Aside0 (g'.length = rows.length) ∧ Aside0 (Below wA.heap.size wA wr) ∧ Aside0 (SR wr wA.heap.size (.slice A4 g'.length c4) (ints g')))
   case atStart => exact ⟨first accs, 0, some ⟨gC, 0, none⟩, cC, congrArg (fun n => Value.slice (some ⟨gC, 0, none⟩) n cC) (first_len accs).symm, rfl, hcls, ⟨by rw [first_len]; exact hlen.out.symm⟩, ⟨hb⟩, ⟨by rw [first_len]; exact hS⟩⟩
   case round =>
    clear hb hS hkq hlt
    obtain ⟨g', n', A4, c4, rfl, rfl, hcl2, hgl, hb, hS⟩ := hrel
    replace hb := hb.out
    replace hS := hS.out
    obtain ⟨hq1, hq2, hCg⟩ := Kd.R_reads' hS
    cases gk with
    | zero => exact absurd hcl2.out (by simp [classes])
    | succ kf =>
    have hst := hcl2.out
    unfold classes at hst
    have hnu := (number_spec (keys rows g') [] List.Pairwise.nil).len
    have hon := (number_spec (keys rows g') [] List.Pairwise.nil).onto
    have hlk : (keys rows g').length = rows.length := by simp [keys]
    obtain ⟨out, hout⟩ : ∃ out, (number (keys rows g') []).1 = out := ⟨_, rfl⟩
    obtain ⟨L, hL⟩ : ∃ L, (number (keys rows g') []).2.length = L := ⟨_, rfl⟩
    have hF := fun W gx A2 c2 A3 c3 A1 c1 => hfin W gx A2 c2 A3 c3 A1 c1 g'
    rw [hout, hlk] at hnu
    rw [hL, hout, hlk] at hon
    rw [hL, hout] at hst
    rw [hL, hout] at hF
    have hst2 := Aside0.mk hst
    have hnu2 := Aside0.mk hnu
    have hon2 := Aside0.mk hon
    clear hst hnu hout hL hlk hcl2 hq1 hon
    have hF2 := Aside0.mk hF
    clear hF
    by_cases hLn : L = n'
    ·subst hLn
     have hog : out = g := by
      have h := hst2.out
      rw [if_pos rfl] at h
      exact Option.some.inj h
     clear hst2
     subst out
     have hL1 : L ≤ 1000000 := Nat.le_trans hon2.out.le_n hn
     have hL0 : 0 < L := Nat.lt_of_le_of_lt (Nat.zero_le _) (hon2.out.lt 0 hn0)
     go_wp2_with (first
      | (go_at_call 80; go_loud (with_reducible refine (hF2.out _ gX A1 c1 A2 c2 A4 c4 (blk_below fX hb) (Kd.C_below cA hb) hc1 (Kd.C_below cN hb) hc2 (by rw [ints_length] at hCg; exact hCg) hq2 hgl.out).mono ?_; rintro e w3 ⟨v0, rfl, r3, hb3⟩; obtain ⟨A5, c5, hv⟩ := Kd.R_slice r3; rw [ints_length] at hv; subst hv))
      | ((with_reducible refine gate_dst (N := 49) rfl ?_); go_loud (
        have hb5 := below_step hb hb3
        obtain ⟨hq9, hq3, cG⟩ := Kd.R_reads' r3
        clear hq9
        rw [ints_length] at cG
        have fX3 := blk_below fX hb5
        have fR3 := blk_below fR hb5
        have fP3 := blk_below fP hb5
        have cA3 := Kd.C_below cA hb5
        have cN3 := Kd.C_below cN hb5
        have bW := below_step bA hb5
        clear hF2 hCg hS hb hb3 hb5 r3 fX fR fP cA cN bA hfin hright hq2
        refine Kd.R_make (Kd.int .i64) (w0 := w3) w3.heap.size 2 rfl (N := 49) rfl 75 _ _ rfl (L : Int) rfl rfl Tryd.underlying75 (.int .i64 0) 8 info_long rfl (by decide) (by decide) (0 : Int) (ok := fun _ => True) (okp := fun _ => False) rfl (fun _ h => h.elim) trivial (by omega) (by simp; omega) (Below.refl _ _) (Nat.le_refl _) ?_
        intro v2 w4 hR4 hb4 hg4 hn4
        simp only [Int.toNat_natCast] at hR4
        obtain ⟨gT, cT, hv2, hgT, _, _⟩ := Kd.R_form hR4 (by simp; omega)
        subst hv2
        rw [List.length_replicate] at hR4)))
     clear hg4 hn4
     go_loopg [10] L (fun kq v10 wq => ∃ k : Nat, v10 = .int .i64 (k : Int) ∧ Aside0 (kq = L - k) ∧ k ≤ L ∧ Aside0 (Below w3.heap.size w3 wq) ∧ Aside0 (SR wq w3.heap.size (.slice (some ⟨gT, 0, none⟩) L cT) (List.replicate k (-1) ++ List.replicate (L - k) 0)))
     case atStart => exact ⟨0, rfl, ⟨by simp⟩, Nat.zero_le _, ⟨hb4⟩, ⟨by simpa using hR4⟩⟩
     case round =>
      clear hb4 hR4
      obtain ⟨k, rfl, hkq, hkl, hb4, hR⟩ := hrel
      replace hb4 := hb4.out
      replace hR := hR.out
      by_cases hlt2 : k < L
      ·have hl : (List.replicate k (-1 : Int) ++ List.replicate (L - k) 0).length = L := by simp; omega
       obtain ⟨hbT, cells, hcT⟩ := row_blk hR (by rw [hl]; omega)
       have k1 := sr_at hR (i := k) (by rw [hl]; exact hlt2)
       have f1 : wr.frozen? ⟨gT, k, none⟩ = false := blk_frozen hcT k
       have hR2 : SR (wr.setCell ⟨gT, k, none⟩ (.int .i64 (-1))) w3.heap.size (.slice (some ⟨gT, 0, none⟩) L cT) ((List.replicate k (-1 : Int) ++ List.replicate (L - k) 0).set k (-1)) := Kd.R_putn hR (k : Int) (-1)
       have hb6 := hb4.setCell (p := ⟨gT, k, none⟩) hbT (.int .i64 (-1))
       rw [fill_step L k hlt2] at hR2
       generalize (List.replicate k (-1 : Int) ++ List.replicate (L - k) 0)[k]'(by rw [hl]; exact hlt2) = oi at *
       clear hl hcT cells hR hb4
       have hlt3 : ((k : Int) < (L : Int)) = True := eq_true (by omega)
       have h0k : (0 ≤ (k : Int)) = True := eq_true (by omega)
       go_wp2_with fail
       go_roundg (L - (k + 1))
       case measure => have := hkq.out; omega
       case rel => exact ⟨k + 1, (by go_num), ⟨by simp⟩, by omega, ⟨hb6⟩, ⟨hR2⟩⟩
      ·have hkk : k = L := by omega
       subst k
       have hlt3 : ((L : Int) < (L : Int)) = False := eq_false (by omega)
       have hl0 : List.replicate L (-1 : Int) ++ List.replicate (L - L) 0 = List.replicate L (-1) := by simp
       rw [hl0] at hR
       clear hl0
       have hgl1 : 0 < g.length := by rw [hnu2.out]; exact hn0
       obtain ⟨q0, hq0⟩ : ∃ q0 : Nat, g.getD 0 0 = q0 := ⟨_, rfl⟩
       have hq0L : q0 < L := by rw [← hq0]; exact hon2.out.lt 0 hn0
       have hq0g : g[0] = q0 := by rw [← hq0]; simp [List.getD_eq_getElem?_getD, hgl1]
       have hA4 := below_alloc hb4 (.cells #[.int .i64 0] 2)
       have d1 : wr.cell? ⟨gX, 1, none⟩ = some (.int .i64 0) := (blk_cell (blk_below fX3 hb4) 1).trans rfl
       have d3 : (wr.alloc (.cells #[.int .i64 0] 2)).cell? ⟨gX, 1, none⟩ = some (.int .i64 0) := (blk_cell (blk_below fX3 hA4) 1).trans rfl
       obtain ⟨a5, rfl, kg⟩ := at_num (Kd.C_below cG hA4) 0 (by rw [ints_length]; exact hgl1)
       rw [ints_get g 0 _ hgl1, hq0g] at kg
       have kg2 : (wr.alloc (.cells #[.int .i64 0] 2)).cell? a5 = some (.int .i64 (q0 : Int)) := by
        have e : a5.add 0 = a5 := by simp [Addr.add]
        rw [e] at kg
        exact kg
       have hR4 := Kd.R_below hR (below_alloc (Below.refl _ _) (.cells #[.int .i64 0] 2))
       have k1 := sr_at hR4 (i := q0) (by rw [List.length_replicate]; exact hq0L)
       obtain ⟨hbT, cells, hcT⟩ := row_blk hR4 (by rw [List.length_replicate]; omega)
       have f1 : (wr.alloc (.cells #[.int .i64 0] 2)).frozen? ⟨gT, q0, none⟩ = false := blk_frozen hcT q0
       have hgT1 := Kd.R_lt hR gT rfl
       have hb6 := hb4.setCell (p := ⟨gT, q0, none⟩) hbT (.int .i64 0)
       have hb7 := below_alloc hb6 (.cells #[.int .i64 0] 2)
       have hR6 : SR (wr.setCell ⟨gT, q0, none⟩ (.int .i64 0)) w3.heap.size (.slice (some ⟨gT, 0, none⟩) L cT) ((List.replicate L (-1 : Int)).set q0 0) := Kd.R_putn hR (q0 : Int) 0
       have hR7 := Kd.R_below hR6 (below_alloc (Below.refl _ _) (.cells #[.int .i64 0] 2))
       have hszw : (wr.setCell ⟨gT, q0, none⟩ (.int .i64 0)).heap.size = wr.heap.size := by simp [World.setCell]
       have hL6 : SR ((wr.setCell ⟨gT, q0, none⟩ (.int .i64 0)).alloc (.cells #[.int .i64 0] 2)) w3.heap.size (.slice (some ⟨wr.heap.size, 0, none⟩) 1 1) (ints [0]) := by
        rw [← hszw]
        exact R_one (Kd.int .i64) 2 _ _ (by rw [hszw]; exact Below.size hb4) (ok := fun _ => True) (okp := fun _ => False) (cs := [.int .i64 0]) rfl (fun _ h => h.elim) trivial
       have d4 : ((wr.setCell ⟨gT, q0, none⟩ (.int .i64 0)).alloc (.cells #[.int .i64 0] 2)).cell? ⟨gp, 0, none⟩ = some (.int .i64 tapes) := (blk_cell (blk_below fP3 hb7) 0).trans rfl
       clear hszw hR6 hb6
       have hlt4 : ((q0 : Int) < (L : Int)) = True := eq_true (by omega)
       have h0q : (0 ≤ (q0 : Int)) = True := eq_true (by omega)
       have hgl2 : (0 < g.length) = True := eq_true hgl1
       have hgl3 : ((0 : Int) < (g.length : Int)) = True := eq_true (by omega)
       have hq2 := Aside0.mk hq0
       have hTab := Aside0.mk (tab_start hq0L)
       clear hq0 hq0g hcT cells
       go_wp2_with fail
       clear d1 d3 d4 kg kg2 k1 f1 hR4 hA4 hb4 hR hlt4 h0q hgl2 hgl3
       generalize hWW : (wr.setCell ⟨gT, q0, none⟩ (.int .i64 0)).alloc (.cells #[.int .i64 0] 2) = wx at *
       have hwx : wx.heap.size = wr.heap.size + 1 := by rw [← hWW]; simp [World.setCell]
       have hsl : w3.heap.size ≤ wr.heap.size := by have := Below.size hb7; have := hbT; omega
       generalize hgg : wr.heap.size + 1 = gV at *
       have h5 : Tt w3 tapes gV gT L cT ((List.replicate L (-1 : Int)).set q0 0) (.slice (some ⟨wr.heap.size, 0, none⟩) 1 1) [0] (.slice none 0 0) [] (.slice none 0 0) [] (.slice none 0 0) [] (wx.alloc (.cells #[.int .i64 tapes, .int .i64 0, .slice none 0 0, .slice none 0 0] 27)) :=
        ⟨blk_at _ _ _ hwx.symm, Kd.R_below hR7 (below_alloc (Below.refl _ _) _), Kd.R_below hL6 (below_alloc (Below.refl _ _) _), Kd.R_nil _ _ _ _ _, Kd.R_nil _ _ _ _ _, Kd.S_nil _ _ _ _ _, (fun e => by have : gT = wr.heap.size := Option.some.inj e; omega), (fun e => by cases e), (fun k _ e => by cases e), by omega, below_alloc hb7 _⟩
       have hTab2 : Aside0 (Tab L ([0].map (kyF g)) ((List.replicate L (-1 : Int)).set q0 0)) := ⟨by have h := hTab.out; rw [← hq2.out] at h ⊢; exact h⟩
       have hbs : Aside0 (bfs (kyF g) (nxF rows) (List.range wd) 0 f2 0 [0] [] = some (some (m, rws))) := ⟨hb2.out⟩
       clear hTab hR7 hL6 hb7 hWW hwx hsl hgg hgT1 hkq hb2
       go_loopg [11, 13] f2 (fun kf v11 v13 wr => ∃ (i : Nat) (li : List Nat) (rw_ : List (List Nat)) (tab : List Int) (AL : Option Addr) (cL : Nat) (vA vN : Value), v11 = .slice AL li.length cL ∧ v13 = .int .i64 (i : Int) ∧ Aside0 (bfs (kyF g) (nxF rows) (List.range wd) 0 kf i li rw_ = some (some (m, rws))) ∧ Aside0 (rw_.length = i) ∧ i ≤ li.length ∧ Aside0 (∀ q ∈ li, q < rows.length) ∧ Aside0 (Tab L (li.map (kyF g)) tab) ∧
        Aside0 (Tt w3 tapes gV gT L cT tab (.slice AL li.length cL) li (.slice none 0 0) [] vA ((li.take i).map (acF accs)) vN rw_ wr))
       case atStart => exact ⟨0, [0], [], _, _, _, _, _, rfl, rfl, hbs, ⟨rfl⟩, Nat.zero_le _, ⟨fun q hq => by rw [List.mem_singleton.1 hq]; exact hn0⟩, hTab2, ⟨h5⟩⟩
       case round =>
        clear h5 hTab2 hbs
        obtain ⟨wo, rfl⟩ : ∃ wo : World, wo = wr := ⟨_, rfl⟩
        obtain ⟨i, li, rw_, tab, AL, cL, vA, vN, rfl, rfl, H, hrl, hil, hQl, hTab, h⟩ := hrel
        replace h := h.out
        have hliL := tab_le hTab.out
        by_cases hlt : i < li.length
        ·cases gk with
         | zero => exact absurd H.out (by simp [bfs])
         | succ kf =>
         have H1 := H.out
         unfold bfs at H1
         rw [dif_pos hlt, if_neg (by omega)] at H1
         have HH := Aside0.mk H1
         clear H1 H
         have hkr : li[i] < rows.length := hQl.out _ (List.getElem_mem hlt)
         have hki := Aside0.mk (List.getElem?_eq_getElem hlt)
         have hgT2 := Kd.R_lt h.tab gT rfl
         have h0 := h.begin hgT2
         generalize hk : li[i] = k at *
         have HK := Aside0.mk hk
         clear hk
         have hlt1 : ((i : Int) < (li.length : Int)) = True := eq_true (by omega)
         have h0i : (0 ≤ (i : Int)) = True := eq_true (by omega)
         go_wp2_with fail
         clear h
         go_loopg [11, 14, 15] wd (fun kq v11 v14 v15 wq => ∃ (c : Nat) (lj r : List Nat) (tab2 : List Int) (A' : Option Addr) (c' : Nat) (Ar : Option Addr) (cr : Nat), v11 = .slice A' lj.length c' ∧ v14 = .slice Ar r.length cr ∧ v15 = .int .i64 (c : Int) ∧ c ≤ wd ∧ Aside0 (kq = wd - c) ∧ Aside0 (r.length = c) ∧ Aside0 ((row (kyF g) (nxF rows) k ((List.range wd).drop c) lj).1 = (row (kyF g) (nxF rows) k (List.range wd) li).1 ∧ r ++ (row (kyF g) (nxF rows) k ((List.range wd).drop c) lj).2 = (row (kyF g) (nxF rows) k (List.range wd) li).2) ∧ Aside0 (∀ q ∈ lj, q < rows.length) ∧ Aside0 (lj[i]? = some k) ∧ Aside0 (Tab L (lj.map (kyF g)) tab2) ∧
          Aside0 (Tt w3 tapes gV gT L cT tab2 (.slice A' lj.length c') lj (.slice Ar r.length cr) r vA ((li.take i).map (acF accs)) vN rw_ wq))
         case atStart => exact ⟨0, li, [], _, _, _, _, _, rfl, rfl, rfl, Nat.zero_le _, ⟨by simp⟩, ⟨rfl⟩, ⟨by simp⟩, ⟨hQl.out⟩, hki, hTab, ⟨h0⟩⟩
         case round =>
          clear h0
          obtain ⟨c, lj, r, tab2, A', c', Ar, cr, rfl, rfl, rfl, hcw, hkq, hrc, HR, hQj, hji, hTj, hq⟩ := hrel
          replace hq := hq.out
          have hjl := tab_le hTj.out
          have hij : i < lj.length := (List.getElem?_eq_some_iff.1 hji.out).1
          obtain ⟨a7, rfl, e7⟩ := sr_at' hq.lst (i := i) (by rw [ints_length]; exact hij)
          rw [ints_get lj i _ hij, (List.getElem?_eq_some_iff.1 hji.out).2] at e7
          have e3 : wr.cell? ⟨gX, 3, none⟩ = some (.slice A2 rows.length c2) := (blk_cell (blk_below fX3 hq.bel) 3).trans rfl
          obtain ⟨a2, rfl, A9, c9, e9, hl9, hC9⟩ := at_row (Kd.C_below cN3 hq.bel) k (by rw [List.length_map]; exact hkr)
          rw [List.getElem_map, ints_length, hcl.wide _ (List.getElem_mem hkr)] at e9 hl9 hC9
          have hlt4 : ((i : Int) < (lj.length : Int)) = True := eq_true (by omega)
          have hkr2 : ((k : Int) < (rows.length : Int)) = True := eq_true (by omega)
          have h0k : (0 ≤ (k : Int)) = True := eq_true (by omega)
          by_cases hc : c < wd
          ·have hd : (List.range wd).drop c = c :: (List.range wd).drop (c + 1) := by
            rw [List.drop_eq_getElem_cons (by simpa using hc)]; simp
           have HR1 := HR.out
           rw [hd] at HR1
           clear HR hd
           have hcr : c < rows[k].length := by rw [hcl.wide _ (List.getElem_mem hkr)]; exact hc
           obtain ⟨ad9, rfl, et⟩ := at_num hC9 c (by rw [ints_length]; exact hcr)
           rw [ints_get _ c _ hcr, ← nxF_get hkr hcr] at et
           have htr : nxF rows k c < rows.length := hcl.step hkr hc
           have hgt : nxF rows k c < g.length := by rw [hnu2.out]; exact htr
           obtain ⟨a5', e5', eg⟩ := at_num (Kd.C_below cG hq.bel) (nxF rows k c) (by rw [ints_length]; exact hgt)
           cases e5'
           rw [ints_get _ _ _ hgt, ← kyF_get hgt] at eg
           have hkL : kyF g (nxF rows k c) < L := hon2.out.lt _ htr
           have hfd := tab_find hTj.out hkL
           have hl2 : kyF g (nxF rows k c) < tab2.length := by rw [hTj.out.len]; exact hkL
           have etab := sr_at hq.tab hl2
           obtain ⟨hbT2, cells, hcT⟩ := row_blk hq.tab (by omega)
           have fT : wr.frozen? ⟨gT, kyF g (nxF rows k c), none⟩ = false := blk_frozen hcT _
           have hlt2 : ((c : Int) < (wd : Int)) = True := eq_true (by omega)
           have h0c : (0 ≤ (c : Int)) = True := eq_true (by omega)
           have htg : ((nxF rows k c : Int) < (g.length : Int)) = True := eq_true (by omega)
           have h0t : (0 ≤ (nxF rows k c : Int)) = True := eq_true (by omega)
           have hkL1 : ((kyF g (nxF rows k c) : Int) < (L : Int)) = True := eq_true (by omega)
           have h0L : (0 ≤ (kyF g (nxF rows k c) : Int)) = True := eq_true (by omega)
           clear hcT cells
           have hgk : Aside0 (∀ W, Below w3.heap.size w3 W → W.cell? (a5.add (nxF rows k c)) = some (.int .i64 (kyF g (nxF rows k c) : Int))) := ⟨fun W hW => by
            obtain ⟨a6, e6, k6⟩ := at_num (Kd.C_below cG hW) (nxF rows k c) (by rw [ints_length]; exact hgt)
            cases e6
            rw [ints_get _ _ _ hgt, ← kyF_get hgt] at k6
            exact k6⟩
           rcases hfd with ⟨hfn, hm1, hnm⟩ | ⟨j, hfj, hm1, hjl2⟩
           ·rw [row_none hfn] at HR1
            have HR := Aside0.mk HR1
            rw [List.getElem?_eq_getElem hl2] at hm1
            rw [Option.some.inj hm1] at etab
            have hTj2 := Aside0.mk (tab_push hTj.out hkL hnm)
            have hlL := tab_le hTj2.out
            have hq2 := hq.set hbT2 (kyF g (nxF rows k c)) (lj.length : Int)
            have htr2 := Aside0.mk htr
            rw [List.length_append, List.length_singleton] at hlL
            clear HR1 hfn hm1 hnm hgt hTj htr
            generalize kyF g (nxF rows k c) = kt at *
            generalize nxF rows k c = t at *
            have hm0 : ((-1 : Int) < 0) = True := eq_true (by omega)
            go_wp2_with fail
            go_quiet (fail)
            generalize nq = n1
            go_wp2_with fail
            go_quiet (fail)
            have h5 := hq2.step (pw_below_drewN (Below.refl _ _) (n1 + nq))
            go_wp2_with (first
             | ((with_reducible refine gate_builtin (b := .append) (xs := #[.tmp 120, .tmp 122]) rfl ?_); go_loud (at_builtin; refine R_append' (Kd.int .i64) (w0 := w3) w3.heap.size rfl (.tmp 120) (.tmp 122) 75 2 (.int .i64 0) 8 rfl Tryd.underlying75 info_long rfl (by decide) (by decide) (.slice (some a7) lj.length c') (ints lj) (t : Int) [.int .i64 (t : Int)] (fun _ => True) (fun _ => False) _ (by simp) rfl rfl rfl (fun _ h => h.elim) (fun _ _ => trivial) h5.lst h5.bel (Below.size h5.bel) (by rw [ints_length]; omega) ?_; intro v6 w6 hR6 hb6 hg6 hat6; obtain ⟨A8, c8, hv6⟩ := Kd.R_slice hR6; have ev6 : (ints lj ++ [(t : Int)]).length = lj.length + 1 := (by simp [ints, GwI.ints]); rw [ev6] at hv6; clear ev6; subst hv6; have h6 := h5.push (Kd.R_lt h5.tab gT rfl) hg6 hat6 hR6 hb6; have eg6 := hgk.out _ h6.bel; have et6 : w6.cell? ⟨gT, kt, none⟩ = some (.int .i64 (lj.length : Int)) := (by have h := sr_at h6.tab (i := kt) (by rw [List.length_set]; exact hl2); rw [List.getElem_set_self] at h; exact h)))
             | ((with_reducible refine gate_builtin (b := .append) (xs := #[.tmp 124, .tmp 132]) rfl ?_); go_loud (at_builtin; refine R_append' (Kd.int .i64) (w0 := w3) w3.heap.size rfl (.tmp 124) (.tmp 132) 75 2 (.int .i64 0) 8 rfl Tryd.underlying75 info_long rfl (by decide) (by decide) (.slice Ar r.length cr) (ints r) (lj.length : Int) [.int .i64 (lj.length : Int)] (fun _ => True) (fun _ => False) _ (by simp) rfl rfl rfl (fun _ h => h.elim) (fun _ _ => trivial) h6.row h6.bel (Below.size h6.bel) (by have := hrc.out; rw [ints_length]; omega) ?_; intro v7 w7 hR7 hb7 hg7 hat7; obtain ⟨A6, c6, hv7⟩ := Kd.R_slice hR7; have ev : (ints r ++ [(lj.length : Int)]).length = (r ++ [lj.length]).length := (by simp [ints, GwI.ints]); rw [ev] at hv7; clear ev; subst hv7; have h7 := h6.more (Kd.R_lt h6.tab gT rfl) hg7 hat7 hR7 hb7)))
            go_roundg (wd - (c + 1))
            case measure => have := hkq.out; omega
            case rel => exact ⟨c + 1, lj ++ [t], r ++ [lj.length], _, A8, c8, A6, c6, (by simp), (by simp), (by go_num), by omega, ⟨rfl⟩, ⟨by have := hrc.out; simp; omega⟩, ⟨HR.out.1, by rw [List.append_assoc]; exact HR.out.2⟩, ⟨fun q hq => (List.mem_append.1 hq).elim (hQj.out q) (fun h => by rw [List.mem_singleton.1 h]; exact htr2.out)⟩, ⟨by rw [List.getElem?_append_left hij]; exact hji.out⟩, hTj2, ⟨by have e : (lj ++ [t]).length = lj.length + 1 := (by simp); rw [e]; exact h7⟩⟩
           ·rw [row_some hfj] at HR1
            have HR := Aside0.mk HR1
            rw [List.getElem?_eq_getElem hl2] at hm1
            rw [Option.some.inj hm1] at etab
            clear HR1 hfj hm1 hgt fT htr
            generalize kyF g (nxF rows k c) = kt at *
            generalize nxF rows k c = t at *
            have hjn : ((j : Int) < 0) = False := eq_false (by omega)
            go_wp2_with fail
            go_quiet (fail)
            generalize nq = n1
            go_wp2_with fail
            go_quiet (fail)
            have h6 := hq.step (pw_below_drewN (Below.refl _ _) (n1 + nq))
            go_wp2_with (((with_reducible refine gate_builtin (b := .append) (xs := #[.tmp 124, .tmp 132]) rfl ?_); go_loud (at_builtin; refine R_append' (Kd.int .i64) (w0 := w3) w3.heap.size rfl (.tmp 124) (.tmp 132) 75 2 (.int .i64 0) 8 rfl Tryd.underlying75 info_long rfl (by decide) (by decide) (.slice Ar r.length cr) (ints r) (j : Int) [.int .i64 (j : Int)] (fun _ => True) (fun _ => False) _ (by simp) rfl rfl rfl (fun _ h => h.elim) (fun _ _ => trivial) h6.row h6.bel (Below.size h6.bel) (by have := hrc.out; rw [ints_length]; omega) ?_; intro v7 w7 hR7 hb7 hg7 hat7; obtain ⟨A6, c6, hv7⟩ := Kd.R_slice hR7; have ev : (ints r ++ [(j : Int)]).length = (r ++ [j]).length := (by simp [ints, GwI.ints]); rw [ev] at hv7; clear ev; subst hv7; have h7 := h6.more (Kd.R_lt h6.tab gT rfl) hg7 hat7 hR7 hb7)))
            go_roundg (wd - (c + 1))
            case measure => have := hkq.out; omega
            case rel => exact ⟨c + 1, lj, r ++ [j], tab2, some a7, c', A6, c6, rfl, (by simp), (by go_num), by omega, ⟨rfl⟩, ⟨by have := hrc.out; simp; omega⟩, ⟨HR.out.1, by rw [List.append_assoc]; exact HR.out.2⟩, hQj, hji, hTj, ⟨h7⟩⟩
          ·have hcc : c = wd := by omega
           subst hcc
           have HR1 := HR.out
           simp only [List.drop_of_length_le (Nat.le_of_eq (List.length_range (n := c))), row, List.append_nil] at HR1
           have HR2 := Aside0.mk HR1
           clear HR1 HR
           have hlt2 : ((c : Int) < (c : Int)) = False := eq_false (by omega)
           go_wp2_with fail
           go_quiet (fail)
           go_wp2_with fail
           have h4 := hq.step (pw_below_drewN (Below.refl _ _) nq)
           clear e7 e3 e9 hl9 hC9 hq
           generalize wr.drewN nq = wz at *
           have hka : k < accs.length := by rw [← hlen.out]; exact hkr
           obtain ⟨am, rfl, _⟩ := at_mark cA3 k hka
           have hka1 : ((k : Int) < (accs.length : Int)) = True := eq_true (by omega)
           obtain ⟨bx, hbx⟩ : ∃ bx, Aside0 (acF accs k = bx) := ⟨_, ⟨rfl⟩⟩
           have hB : ∀ W', Below w3.heap.size w3 W' → SR W' w3.heap.size (.slice (some a7) lj.length c') (ints lj) → W'.cell? ⟨gX, 2, none⟩ = some (.slice (some am) accs.length c1) ∧ W'.cell? (a7.add i) = some (.int .i64 (k : Int)) ∧ W'.cell? (am.add k) = some (.bool bx) := by
            intro W' hb hL
            obtain ⟨a8, e8, k8⟩ := sr_at' hL (i := i) (by rw [ints_length]; exact hij)
            cases e8
            rw [ints_get lj i _ hij, (List.getElem?_eq_some_iff.1 hji.out).2] at k8
            obtain ⟨a9, e9, k9⟩ := at_mark (Kd.C_below cA3 hb) k hka
            cases e9
            rw [← acF_get hka, hbx.out] at k9
            exact ⟨(blk_cell (blk_below fX3 hb) 2).trans rfl, k8, k9⟩
           have hSS : ∀ W' vA' bs', Tt w3 tapes gV gT L cT tab2 (.slice (some a7) lj.length c') lj (.slice Ar r.length cr) r vA' bs' vN rw_ W' → W'.cell? ⟨gV, 2, none⟩ = some vA' ∧ W'.cell? ⟨gX, 2, none⟩ = some (.slice (some am) accs.length c1) ∧ W'.cell? (a7.add i) = some (.int .i64 (k : Int)) ∧ W'.cell? (am.add k) = some (.bool bx) := fun W' vA' bs' h => ⟨(blk_cell h.bV 2).trans rfl, hB W' h.bel h.lst⟩
           have hQd := h4.step (below_drew1 (Below.refl _ _))
           refine start_ (n := 14) (S := fun w' => w'.cell? ⟨gV, 2, none⟩ = some vA ∧ w'.cell? ⟨gX, 2, none⟩ = some (.slice (some am) accs.length c1) ∧ w'.cell? (a7.add i) = some (.int .i64 (k : Int)) ∧ w'.cell? (am.add k) = some (.bool bx)) (ds := [13]) (.replicate 14 false) (by kernel_rfl) rfl rfl (hSS _ _ _ hQd) (fun hHeld => ?_)
           refine pure_ (i := 0) (N := some 134) (v := ?_) (a' := ?_) (zb 14 1) rfl rfl (by kernel_rfl) (fun _ _ _ h => h) (Or.inl ⟨by rfl, ?_⟩) ?_ ?_
           rotate_left
           ·intro w'
            go_simp
            with_reducible rfl
           rotate_left
           ·simp only [Act.put, Za, Zb, Zc, i64_w, i32_w]
            rfl
           refine pure_ (i := 2) (N := some 136) (v := ?_) (a' := ?_) (zb 14 5) rfl rfl (by kernel_rfl) (fun _ _ _ h => h) (Or.inl ⟨by rfl, ?_⟩) ?_ ?_
           rotate_left
           ·intro w'
            go_simp
            with_reducible rfl
           rotate_left
           ·simp only [Act.put, Za, Zb, Zc, i64_w, i32_w]
            rfl
           refine pure_ (i := 4) (N := some 138) (v := ?_) (a' := ?_) (zb 14 21) rfl rfl (by kernel_rfl) (fun _ _ _ h => h) (Or.inl ⟨by rfl, ?_⟩) ?_ ?_
           rotate_left
           ·intro w'
            go_simp
            with_reducible rfl
           rotate_left
           ·simp only [Act.put, Za, Zb, Zc, i64_w, i32_w]
            rfl
           refine pure_ (i := 5) (N := some 139) (v := ?_) (a' := ?_) (zb 14 53) rfl rfl (by kernel_rfl) (fun _ _ _ h => h) (Or.inl ⟨by rfl, ?_⟩) ?_ ?_
           rotate_left
           ·intro w'
            go_simp
            with_reducible rfl
           rotate_left
           ·simp only [Act.put, Za, Zb, Zc, i64_w, i32_w]
            rfl
           refine pure_ (i := 6) (N := some 140) (v := ?_) (a' := ?_) (zb 14 117) rfl rfl (by kernel_rfl) (fun _ _ _ h => h) (Or.inl ⟨by rfl, ?_⟩) ?_ ?_
           rotate_left
           ·intro w'
            go_simp
            with_reducible rfl
           rotate_left
           ·simp only [Act.put, Za, Zb, Zc, i64_w, i32_w]
            rfl
           refine take_ (i := 1) (N := some 135) (v := ?_) (a' := ?_) (zb 14 119) rfl rfl (by kernel_rfl) (fun _ _ _ h => h) (Or.inl ⟨by rfl, ?_⟩) hHeld ?_ ?_
           rotate_left
           ·rintro w' ⟨s1, s2, s3, s4⟩
            go_simp
            with_reducible rfl
           rotate_left
           ·simp only [Act.put, Za, Zb, Zc, i64_w, i32_w]
            rfl
           refine take_ (i := 3) (N := some 137) (v := ?_) (a' := ?_) (zb 14 127) rfl rfl (by kernel_rfl) (fun _ _ _ h => h) (Or.inl ⟨by rfl, ?_⟩) hHeld ?_ ?_
           rotate_left
           ·rintro w' ⟨s1, s2, s3, s4⟩
            go_simp
            with_reducible rfl
           rotate_left
           ·simp only [Act.put, Za, Zb, Zc, i64_w, i32_w]
            rfl
           refine take_ (i := 7) (N := some 141) (v := ?_) (a' := ?_) (zb 14 255) rfl rfl (by kernel_rfl) (fun _ _ _ h => h) (Or.inl ⟨by rfl, ?_⟩) hHeld ?_ ?_
           rotate_left
           ·rintro w' ⟨s1, s2, s3, s4⟩
            go_simp
            with_reducible rfl
           rotate_left
           ·simp only [Act.put, Za, Zb, Zc, i64_w, i32_w]
            rfl
           refine pure_ (i := 8) (N := some 142) (v := ?_) (a' := ?_) (zb 14 511) rfl rfl (by kernel_rfl) (fun _ _ _ h => h) (Or.inl ⟨by rfl, ?_⟩) ?_ ?_
           rotate_left
           ·intro w'
            go_simp
            with_reducible rfl
           rotate_left
           ·simp only [Act.put, Za, Zb, Zc, i64_w, i32_w]
            rfl
           refine take_ (i := 9) (N := some 143) (v := ?_) (a' := ?_) (zb 14 1023) rfl rfl (by kernel_rfl) (fun _ _ _ h => h) (Or.inl ⟨by rfl, ?_⟩) hHeld ?_ ?_
           rotate_left
           ·rintro w' ⟨s1, s2, s3, s4⟩
            go_simp
            with_reducible rfl
           rotate_left
           ·simp only [Act.put, Za, Zb, Zc, i64_w, i32_w]
            rfl
           refine one_ (i := 10) (N := some 144) (zb 14 2047) rfl rfl (by kernel_rfl) (by decide) (fun K hK => ?_)
           refine value_ (w1 := wz.drew.alloc (.cells #[.bool bx] 4)) (v := .slice (some ⟨wz.drew.heap.size, 0, none⟩) 1 1) (by rfl) rfl (by first | (go_simp; done) | (go_simp; rfl)) ?_
           have hQ5 := hQd.step (below_alloc (Below.refl _ _) (.cells #[.bool bx] 4))
           refine hK.out _ _ (hSS _ _ _ hQ5) (fun hHeld => ?_)
           clear hK K
           refine norm_ (a' := ?_) ?_ ?_
           rotate_left
           ·show Act.put _ (some 144) _ = _
            simp only [Act.put, Za, Zb, Zc, i64_w, i32_w]
            rfl
           refine one_ (i := 11) (N := some 145) (zb 14 4095) rfl rfl (by kernel_rfl) (by decide) (fun K hK => ?_)
           refine Kd.R_append_step Kd.bool (w0 := w3) w3.heap.size (by rfl) (.tmp 135) (.tmp 144) 22 4 (.bool false) 1 rfl Tryd.underlying22 GwI.info_bool rfl (by decide) (by decide) vA ((li.take i).map (acF accs)) bx [.bool bx] (fun _ => True) (fun _ => False) rfl rfl rfl (fun _ h => h.elim) (fun _ _ => trivial) hQd.acc hQd.bel (Below.size hQd.bel) (by simp <;> omega) ?_
           intro v6 w6 hR6 hb6 hg6 hat6
           obtain ⟨A6, c6, hv6⟩ := Kd.R_slice hR6
           subst hv6
           obtain ⟨b26, hQ6⟩ := hQd.mark hg6 hR6 hb6
           refine hK.out _ _ ⟨(blk_cell b26 2).trans rfl, hB _ hb6 (R_off hQd.lst (Keep.grown hg6) (Off.row hQd.acc (by decide)))⟩ (fun hHeld => ?_)
           clear hK K
           refine norm_ (a' := ?_) ?_ ?_
           rotate_left
           ·show Act.put _ (some 145) _ = _
            simp only [Act.put, Za, Zb, Zc, i64_w, i32_w]
            rfl
           refine pure_ (i := 12) (N := some 146) (v := ?_) (a' := ?_) (zb 14 8191) rfl rfl (by kernel_rfl) (fun _ _ _ h => h) (Or.inl ⟨by rfl, ?_⟩) ?_ ?_
           rotate_left
           ·intro w'
            go_simp
            with_reducible rfl
           rotate_left
           ·simp only [Act.put, Za, Zb, Zc, i64_w, i32_w]
            rfl
           refine last_ (i := 13) (N := none) (zb 14 16383) rfl rfl (by kernel_rfl) (by decide) (fun K hK => ?_)
           have hf6 : w6.frozen? ⟨gV, 2, none⟩ = false := blk_frozen b26 2
           have hc6 : w6.cell? ⟨gV, 2, none⟩ = some vA := (blk_cell b26 2).trans rfl
           refine skip_ (w1 := w6.setCell ⟨gV, 2, none⟩ (.slice A6 (((li.take i).map (acF accs)) ++ [bx]).length c6)) (by rfl) rfl (by first | (go_simp; done) | (go_simp; rfl)) ?_
           refine hK.out _ _ ?_
           clear hK K
           refine done_ (by kernel_rfl) ?_
           clear hSS hB hQd hQ5 hf6 hc6 b26 hR6 hb6 hg6 hHeld h4
           generalize w6.setCell ⟨gV, 2, none⟩ (.slice A6 (((li.take i).map (acF accs)) ++ [bx]).length c6) = w7 at *
           have c73 : w7.cell? ⟨gV, 3, none⟩ = some vN := (blk_cell hQ6.bV 3).trans rfl
           have hrow : (Kd.int .i64).R 2 w7 w3.heap.size (fun j => some j = (Value.slice Ar r.length cr).ownBlock) (.slice Ar r.length cr) (ints r) := Kd.R_of_own (Kd.own_of_R hQ6.row) (fun j hj => hj.symm)
           have hgT7 := Kd.R_lt hQ6.tab gT rfl
           have hLt7 := Kd.R_lt hQ6.lst
           have hrl2 : rw_.length ≤ 1000000 := by have := hrl.out; omega
           go_wp2_with ((with_reducible refine gate_builtin (b := .append) (xs := #[.tmp 148, .tmp 150]) rfl ?_); go_loud (at_builtin; refine S_append' (Kd.slice 2 (Kd.int .i64)) (w0 := w3) w3.heap.size rfl (.tmp 148) (.tmp 150) 23 75 (.slice none 0 0) 24 rfl Tryd.underlying23 info_longs rfl (by decide) (by decide) vN (rw_.map ints) (ints r) [.slice Ar r.length cr] (fun j => j ≠ gT ∧ some j ≠ (Value.slice (some a7) lj.length c').ownBlock) (fun j => some j = (Value.slice Ar r.length cr).ownBlock ∧ some j ≠ vN.ownBlock) _ (by simp) rfl rfl (Kd.M_row (R_typed hrow (Kd.S_R hQ6.out) (by decide))) (fun j hj => ⟨⟨fun e => hQ6.tr (by rw [← hj.1, e]), fun e => hQ6.lr j e.symm hj.1⟩, hj.2⟩) (fun j hj => ⟨by omega, fun e => by have := hLt7 j e.symm; omega⟩) (Kd.S_mono hQ6.out (fun j hj => ⟨⟨hj.1, hj.2.1⟩, fun h => hj.2.2 h.1⟩)) hQ6.bel (Below.size hQ6.bel) (by rw [List.length_map]; omega) ?_; intro v8 w8 hR8 hb8 hg8 hat8; obtain ⟨A8, c8, hv8⟩ := Kd.S_slice hR8; have ev8 : (rw_.map ints ++ [ints r]).length = rw_.length + 1 := (by simp); rw [ev8] at hv8; subst hv8; obtain ⟨b28, h8⟩ := hQ6.nxt hg8 hR8 hb8; have c83 : w8.cell? ⟨gV, 3, none⟩ = some vN := (blk_cell b28 3).trans rfl; have f83 : w8.frozen? ⟨gV, 3, none⟩ = false := blk_frozen b28 3))
           go_roundg kf
           case measure => omega
           case rel =>
            obtain ⟨hm1, hm2⟩ := row_prefix (key := kyF g) (nxt := nxF rows) (s := k) (List.range c) li
            have hil3 : i + 1 ≤ lj.length := by omega
            have e1 : (lj.take (i + 1)).map (acF accs) = (li.take i).map (acF accs) ++ [bx] := by
             rw [HR2.out.1, hm2, List.take_append_of_le_length (by omega), List.take_succ_eq_append_getElem hlt, List.map_append, ← hbx.out, HK.out]
             rfl
            exact ⟨i + 1, lj, rw_ ++ [r], tab2, some a7, c', .slice A6 (((li.take i).map (acF accs)) ++ [bx]).length c6, .slice A8 (rw_.length + 1) c8, rfl, (by go_num), ⟨by rw [HR2.out.1, HR2.out.2]; exact HH.out⟩, ⟨by have := hrl.out; simp; omega⟩, hil3, hQj, hTj, ⟨by rw [e1]; exact h8⟩⟩
        ·have hii : i = li.length := by omega
         subst hii
         cases gk with
         | zero => exact absurd H.out (by simp [bfs])
         | succ kf =>
         have H1 := H.out
         unfold bfs at H1
         rw [dif_neg (by omega)] at H1
         simp only [Option.some.injEq, Prod.mk.injEq] at H1
         obtain ⟨rfl, rfl⟩ := H1
         rw [List.take_of_length_le (Nat.le_refl _)] at h
         have hlt1 : ((li.length : Int) < (li.length : Int)) = False := eq_false (by omega)
         obtain ⟨AA2, cA2, rfl⟩ := Kd.R_slice h.acc
         obtain ⟨AN2, cN2, rfl⟩ := Kd.S_slice h.out
         rw [List.length_map] at h
         have hbV := h.bV
         rw [List.length_map, hrl.out] at hbV
         have d0 : wo.cell? ⟨gV, 0, none⟩ = some (.int .i64 tapes) := (blk_cell hbV 0).trans rfl
         have d1 : wo.cell? ⟨gV, 1, none⟩ = some (.int .i64 0) := (blk_cell hbV 1).trans rfl
         have d2 : wo.cell? ⟨gV, 2, none⟩ = some (.slice AA2 li.length cA2) := (blk_cell hbV 2).trans rfl
         have d3 : wo.cell? ⟨gV, 3, none⟩ = some (.slice AN2 li.length cN2) := (blk_cell hbV 3).trans rfl
         have b := blk_below fR3 h.bel
         have e0 : wo.cell? ⟨w.heap.size, 0, none⟩ = some (.int .i64 0) := (blk_cell b 0).trans rfl
         have e1 : wo.cell? ⟨w.heap.size, 1, none⟩ = some (.int .i64 0) := (blk_cell b 1).trans rfl
         have e2 : wo.cell? ⟨w.heap.size, 2, none⟩ = some (.slice none 0 0) := (blk_cell b 2).trans rfl
         have e3 : wo.cell? ⟨w.heap.size, 3, none⟩ = some (.slice none 0 0) := (blk_cell b 3).trans rfl
         have f0 : wo.frozen? ⟨w.heap.size, 0, none⟩ = false := blk_frozen b 0
         have f1 : wo.frozen? ⟨w.heap.size, 1, none⟩ = false := blk_frozen b 1
         have f2 : wo.frozen? ⟨w.heap.size, 2, none⟩ = false := blk_frozen b 2
         have f3 : wo.frozen? ⟨w.heap.size, 3, none⟩ = false := blk_frozen b 3
         have hbel := below_step bW h.bel
         go_wp2_with fail
         have hA := Kd.R_lower h.acc (Below.size bW)
         have hbs2 : li.map (acF accs) = bs := hbss.out
         rw [hbs2] at hA
         have hN := Kd.S_lower h.out (Below.size bW)
         clear d0 d1 d2 d3 e0 e1 e2 e3 f0 f1 f2 f3
         rw [List.length_map, hrl.out] at hN
         have b1 := blk_put b 0 (.int .i64 tapes) rfl
         have b2 := blk_put b1 1 (.int .i64 0) rfl
         have b3 := blk_put b2 2 (.slice AA2 li.length cA2) rfl
         have b4 := blk_put b3 3 (.slice AN2 li.length cN2) rfl
         refine bodyPost_ret (results_cell_row rfl _ _ w.heap.size 27 #[.int .i64 tapes, .int .i64 0, .slice AA2 li.length cA2, .slice AN2 li.length cN2] (0, 0) _ rfl b4 Tryd.underlying27 rfl (by kernel_rfl)) rfl ⟨_, _, rfl, ?_, ?_, ?_⟩
         ·exact Kd.R_set (Kd.R_set (Kd.R_set (Kd.R_set hA b (by decide) 0 _) b1 (by decide) 1 _) b2 (by decide) 2 _) b3 (by decide) 3 _
         ·exact Kd.S_mono (Kd.S_set (Kd.S_set (Kd.S_set (Kd.S_set hN b (by decide) 0 _) b1 (by decide) 1 _) b2 (by decide) 2 _) b3 (by decide) 3 _) (fun _ _ => trivial)
         ·exact (((hbel.setCell (by simp) _).setCell (by simp) _).setCell (by simp) _).setCell (by simp) _
    ·have hd1 : ((L : Int) == (n' : Int)) = false := by simp; omega
     go_wp2_with (go_at_call 80; go_loud (with_reducible refine (hF2.out _ gX A1 c1 A2 c2 A4 c4 (blk_below fX hb) (Kd.C_below cA hb) hc1 (Kd.C_below cN hb) hc2 (by rw [ints_length] at hCg; exact hCg) hq2 hgl.out).mono ?_; rintro e w3 ⟨v0, rfl, r3, hb3⟩; obtain ⟨A5, c5, rfl⟩ := Kd.R_slice r3; rw [ints_length] at r3; have r5 := Kd.R_lower r3 (Below.size hb); have hb5 := below_step hb hb3))
     go_roundg kf
     case measure => omega
     case rel => exact ⟨out, L, A5, c5, by rw [ints_length], rfl, ⟨by have := hst2.out; rw [if_neg hLn] at this; exact this⟩, hnu2, ⟨hb5⟩, ⟨r5⟩⟩
end Go.Proofs.YtnjdkhnepmmfgaaDoor.Tw
namespace Go.Proofs.YtnjdkhnepmmfgaaDoor.Sb
set_option linter.unusedVariables false
set_option linter.unusedSimpArgs false
open Go.RowKit Go.Proofs.YtnjdkhnepmmfgaaDoorW.PrintWords Go.Proofs.YtnjdkhnepmmfgaaDoorW.PrintLast Go.Proofs.YtnjdkhnepmmfgaaDoorW.PrintMore Mp Kp Mg Tdy Rg Tw
abbrev Pair := Kd.arr 2 (Kd.int .i64) (by decide)
abbrev Text2 := Kd.arr 2 Kd.string (by decide)
def encI (l : List Int) : Array Value := (encs (Value.int .i64) l).toArray
def encT (l : List ByteArray) : Array Value := (encs Value.string l).toArray
def ab (b : Nat) : ByteArray := if b = 0 then ⟨#[97]⟩ else ⟨#[98]⟩
abbrev St := List Nat × List Int × List ByteArray
/-- One pair of letters (a, b). -/
def pairF (lv : Nat → Bool) (r : List Nat) (a b : Nat) (s : St) : Option St :=
 if a = 2 ∧ b = 2 then some s
 else if lv (r.getD (a + 3 * b) 0) = false then some s
 else if a = 2 ∨ b = 2 ∨ 0 ≤ s.2.1.getD a (-1) then none
 else match find id (r.getD (a + 3 * b) 0) s.1 with
  | some j => some (s.1, s.2.1.set a (j : Int), s.2.2.set a (ab b))
  | none => some (s.1 ++ [r.getD (a + 3 * b) 0], s.2.1.set a (s.1.length : Int), s.2.2.set a (ab b))
def runB (lv : Nat → Bool) (r : List Nat) (a : Nat) : List Nat → St → Option St
 | [], s => some s
 | b :: bs, s => (pairF lv r a b s).bind (runB lv r a bs)
def runA (lv : Nat → Bool) (r : List Nat) : List Nat → St → Option St
 | [], s => some s
 | a :: l, s => (runB lv r a [0, 1, 2] s).bind (runA lv r l)
def rowT (lv : Nat → Bool) (r : List Nat) (li : List Nat) : Option St := runA lv r [0, 1, 2] (li, [-1, -1], [⟨#[]⟩, ⟨#[]⟩])
abbrev Sc := List Nat × List (List Int) × List (List ByteArray)
/-- 'none': more rounds are wanted; 'some none': there is no scribe. -/
def scr (lv : Nat → Bool) (rows : List (List Nat)) : Nat → Nat → List Nat → List (List Int) → List (List ByteArray) → Option (Option Sc)
 | 0, _, _, _, _ => none
 | f + 1, i, li, nx, ot =>
  if h : i < li.length then
   match rowT lv (rows.getD li[i] []) li with
   | none => some none
   | some s => scr lv rows f (i + 1) s.1 (nx ++ [s.2.1]) (ot ++ [s.2.2])
  else some (some (li, nx, ot))
/-- What stands in memory: the scribe, the map, the list, the machine's parts of it; xN and xO: the arrays of the round. All of it is newer than w0. -/
structure Mem (w0 : World) (gX mb : Nat) (xN xO : Option Nat) (em : List Int) (vL : Value) (li : List Nat) (vA : Value) (bs : List Bool) (vN : Value) (nx : List (List Int)) (vO : Value) (ot : List (List ByteArray)) (W : World) : Prop where
 bX : W.heap[gX]? = some (.cells #[vA, vN, vO] 37 (0, 0))
 map : FMap Tryd.prog 3 W mb (GwI.ents em)
 lst : Kd.R (Kd.int .i64) 3 W w0.heap.size (fun _ => True) vL (ints li)
 acc : Kd.R Kd.bool 4 W w0.heap.size (fun _ => True) vA bs
 nxt : Kd.R Pair 78 W w0.heap.size (fun k => some k ≠ xN) vN nx
 out : Kd.R Text2 79 W w0.heap.size (fun k => some k ≠ xO) vO ot
 hX : w0.heap.size ≤ gX
 hm : w0.heap.size ≤ mb
 bel : Below w0.heap.size w0 W
section
variable {w0 : World} {gX mb : Nat} {xN xO : Option Nat} {em : List Int} {vL : Value} {li : List Nat} {vA : Value} {bs : List Bool} {vN : Value} {nx : List (List Int)} {vO : Value} {ot : List (List ByteArray)} {W W' : World}
theorem Mem.step (h : Mem w0 gX mb xN xO em vL li vA bs vN nx vO ot W) (hb : Below W.heap.size W W') : Mem w0 gX mb xN xO em vL li vA bs vN nx vO ot W' :=
 ⟨blk_below h.bX hb, map_keep h.map (Keep.below hb) (by simp), Kd.R_below h.lst hb, Kd.R_below h.acc hb, Kd.R_below h.nxt hb, Kd.R_below h.out hb, h.hX, h.hm, below_step h.bel hb⟩
theorem Mem.put (h : Mem w0 gX mb xN xO em vL li vA bs vN nx vO ot W) {em' : List Int} (hg : W.grownBy W' (some mb)) (hF : FMap Tryd.prog 3 W' mb (GwI.ents em')) : Mem w0 gX mb xN xO em' vL li vA bs vN nx vO ot W' := by
 have hk := Keep.grown hg
 have o : ∀ E : List Nat, Off W (some mb) E := fun E => Off.map h.map E
 exact ⟨hk.obj h.bX (off_ne h.bX (o _)), hF, R_off h.lst hk (o _), R_off h.acc hk (o _), R_off h.nxt hk (o _), R_off h.out hk (o _), h.hX, h.hm, h.bel.grown hg (Below.size h.bel) (fun k hk => by cases hk; exact h.hm)⟩
theorem Mem.push (h : Mem w0 gX mb xN xO em vL li vA bs vN nx vO ot W) {v1 : Value} {li' : List Nat} (hg : W.grownBy W' vL.ownBlock) (hR : Kd.R (Kd.int .i64) 3 W' w0.heap.size (fun _ => True) v1 (ints li')) (hb : Below w0.heap.size w0 W') : Mem w0 gX mb xN xO em v1 li' vA bs vN nx vO ot W' := by
 have hk := Keep.grown hg
 have o : ∀ E : List Nat, (∀ q ∈ E, q ≠ 3) → Off W vL.ownBlock E := fun E hE => Off.row h.lst hE
 exact ⟨hk.obj h.bX (off_ne h.bX (o _ (by decide))), map_keep h.map hk (map_row_ne h.map h.lst), hR, R_off h.acc hk (o _ (by decide)), R_off h.nxt hk (o _ (by decide)), R_off h.out hk (o _ (by decide)), h.hX, h.hm, hb⟩
/-- The arrays of the round are new. -/
theorem Mem.begin (h : Mem w0 gX mb none none em vL li vA bs vN nx vO ot W) {gN gO : Nat} (hN : W.heap.size ≤ gN) (hO : W.heap.size ≤ gO) : Mem w0 gX mb (some gN) (some gO) em vL li vA bs vN nx vO ot W :=
 ⟨h.bX, h.map, h.lst, h.acc, Kd.R_mono (Kd.R_bound h.nxt) (fun k hk e => by have h1 := hk.2.2.1; have h2 := Option.some.inj e; omega), Kd.R_mono (Kd.R_bound h.out) (fun k hk e => by have h1 := hk.2.2.1; have h2 := Option.some.inj e; omega), h.hX, h.hm, h.bel⟩
theorem Mem.setN {gN : Nat} {c : Array Value} (h : Mem w0 gX mb (some gN) xO em vL li vA bs vN nx vO ot W) (hb : W.heap[gN]? = some (.cells c 78 (0, 0))) (hg : w0.heap.size ≤ gN) (i : Nat) (v : Value) : Mem w0 gX mb (some gN) xO em vL li vA bs vN nx vO ot (W.setCell ⟨gN, i, none⟩ v) := by
 have hk := Keep.set W ⟨gN, i, none⟩ v
 have o : ∀ E : List Nat, (∀ q ∈ E, q ≠ 78) → Off W (some gN) E := fun E hE => Off.cells hb hE
 have hn := R_apart (ok := fun k => some k ≠ some gN) (Kd.R_mono h.nxt (fun k hk => ⟨hk, hk⟩)) hk
 exact ⟨hk.obj h.bX (off_ne h.bX (o _ (by decide))), map_keep h.map hk (fun e => map_ne h.map hb (Option.some.inj e)), R_off h.lst hk (o _ (by decide)), R_off h.acc hk (o _ (by decide)), Kd.R_mono hn (fun k hk => hk.1), R_off h.out hk (o _ (by decide)), h.hX, h.hm, h.bel.setCell hg _⟩
theorem Mem.setO {gO : Nat} {c : Array Value} (h : Mem w0 gX mb xN (some gO) em vL li vA bs vN nx vO ot W) (hb : W.heap[gO]? = some (.cells c 79 (0, 0))) (hg : w0.heap.size ≤ gO) (i : Nat) (v : Value) : Mem w0 gX mb xN (some gO) em vL li vA bs vN nx vO ot (W.setCell ⟨gO, i, none⟩ v) := by
 have hk := Keep.set W ⟨gO, i, none⟩ v
 have o : ∀ E : List Nat, (∀ q ∈ E, q ≠ 79) → Off W (some gO) E := fun E hE => Off.cells hb hE
 have hn := R_apart (ok := fun k => some k ≠ some gO) (Kd.R_mono h.out (fun k hk => ⟨hk, hk⟩)) hk
 exact ⟨hk.obj h.bX (off_ne h.bX (o _ (by decide))), map_keep h.map hk (fun e => map_ne h.map hb (Option.some.inj e)), R_off h.lst hk (o _ (by decide)), R_off h.acc hk (o _ (by decide)), R_off h.nxt hk (o _ (by decide)), Kd.R_mono hn (fun k hk => hk.1), h.hX, h.hm, h.bel.setCell hg _⟩
/-- A mark is put behind the marks. -/
theorem Mem.mark {v1 : Value} {bs' : List Bool} (h : Mem w0 gX mb xN xO em vL li vA bs vN nx vO ot W) (hg : W.grownBy W' vA.ownBlock) (hR : Kd.R Kd.bool 4 W' w0.heap.size (fun _ => True) v1 bs') (hb : Below w0.heap.size w0 W') :
  W'.heap[gX]? = some (.cells #[vA, vN, vO] 37 (0, 0)) ∧ Mem w0 gX mb xN xO em vL li v1 bs' vN nx vO ot (W'.setCell ⟨gX, 0, none⟩ v1) := by
 have hk := Keep.grown hg
 have o : ∀ E : List Nat, (∀ q ∈ E, q ≠ 4) → Off W vA.ownBlock E := fun E hE => Off.row h.acc hE
 have b := hk.obj h.bX (off_ne h.bX (o _ (by decide)))
 have hs := Keep.set W' ⟨gX, 0, none⟩ v1
 have p : ∀ E : List Nat, (∀ q ∈ E, q ≠ 37) → Off W' (some gX) E := fun E hE => Off.cells b hE
 have m := map_keep h.map hk (map_row_ne h.map h.acc)
 exact ⟨b, blk_put b 0 v1 rfl, map_keep m hs (fun e => map_ne m b (Option.some.inj e)), R_off (R_off h.lst hk (o _ (by decide))) hs (p _ (by decide)), R_off hR hs (p _ (by decide)), R_off (R_off h.nxt hk (o _ (by decide))) hs (p _ (by decide)), R_off (R_off h.out hk (o _ (by decide))) hs (p _ (by decide)), h.hX, h.hm, hb.setCell h.hX _⟩
theorem Mem.addN {v1 : Value} {nx' : List (List Int)} (h : Mem w0 gX mb xN xO em vL li vA bs vN nx vO ot W) (hg : W.grownBy W' vN.ownBlock) (hR : Kd.R Pair 78 W' w0.heap.size (fun k => some k ≠ xN) v1 nx') (hb : Below w0.heap.size w0 W') :
  W'.heap[gX]? = some (.cells #[vA, vN, vO] 37 (0, 0)) ∧ Mem w0 gX mb xN xO em vL li vA bs v1 nx' vO ot (W'.setCell ⟨gX, 1, none⟩ v1) := by
 have hk := Keep.grown hg
 have o : ∀ E : List Nat, (∀ q ∈ E, q ≠ 78) → Off W vN.ownBlock E := fun E hE => Off.row h.nxt hE
 have b := hk.obj h.bX (off_ne h.bX (o _ (by decide)))
 have hs := Keep.set W' ⟨gX, 1, none⟩ v1
 have p : ∀ E : List Nat, (∀ q ∈ E, q ≠ 37) → Off W' (some gX) E := fun E hE => Off.cells b hE
 have m := map_keep h.map hk (map_row_ne h.map h.nxt)
 exact ⟨b, blk_put b 1 v1 rfl, map_keep m hs (fun e => map_ne m b (Option.some.inj e)), R_off (R_off h.lst hk (o _ (by decide))) hs (p _ (by decide)), R_off (R_off h.acc hk (o _ (by decide))) hs (p _ (by decide)), R_off hR hs (p _ (by decide)), R_off (R_off h.out hk (o _ (by decide))) hs (p _ (by decide)), h.hX, h.hm, hb.setCell h.hX _⟩
theorem Mem.addO {v1 : Value} {ot' : List (List ByteArray)} (h : Mem w0 gX mb xN xO em vL li vA bs vN nx vO ot W) (hg : W.grownBy W' vO.ownBlock) (hR : Kd.R Text2 79 W' w0.heap.size (fun k => some k ≠ xO) v1 ot') (hb : Below w0.heap.size w0 W') :
  W'.heap[gX]? = some (.cells #[vA, vN, vO] 37 (0, 0)) ∧ Mem w0 gX mb xN xO em vL li vA bs vN nx v1 ot' (W'.setCell ⟨gX, 2, none⟩ v1) := by
 have hk := Keep.grown hg
 have o : ∀ E : List Nat, (∀ q ∈ E, q ≠ 79) → Off W vO.ownBlock E := fun E hE => Off.row h.out hE
 have b := hk.obj h.bX (off_ne h.bX (o _ (by decide)))
 have hs := Keep.set W' ⟨gX, 2, none⟩ v1
 have p : ∀ E : List Nat, (∀ q ∈ E, q ≠ 37) → Off W' (some gX) E := fun E hE => Off.cells b hE
 have m := map_keep h.map hk (map_row_ne h.map h.out)
 exact ⟨b, blk_put b 2 v1 rfl, map_keep m hs (fun e => map_ne m b (Option.some.inj e)), R_off (R_off h.lst hk (o _ (by decide))) hs (p _ (by decide)), R_off (R_off h.acc hk (o _ (by decide))) hs (p _ (by decide)), R_off (R_off h.nxt hk (o _ (by decide))) hs (p _ (by decide)), R_off hR hs (p _ (by decide)), h.hX, h.hm, hb.setCell h.hX _⟩
theorem Mem.done (h : Mem w0 gX mb xN xO em vL li vA bs vN nx vO ot W) : Mem w0 gX mb none none em vL li vA bs vN nx vO ot W :=
 ⟨h.bX, h.map, h.lst, h.acc, Kd.R_mono h.nxt (fun _ _ => by simp), Kd.R_mono h.out (fun _ _ => by simp), h.hX, h.hm, h.bel⟩
end
theorem find_ints (t : Nat) : ∀ l : List Nat, find id (t : Int) (ints l) = find id t l
 | [] => rfl
 | a :: l => by
  have ih := find_ints t l
  show find id (t : Int) ((a : Int) :: ints l) = _
  unfold find
  rw [ih]
  simp only [id]
  by_cases h : a = t
  ·rw [if_pos h, if_pos (by omega)]
  ·rw [if_neg h, if_neg (by omega)]
theorem runB_step {lv : Nat → Bool} {r : List Nat} {a b : Nat} (hb : b < 3) (s : St) : runB lv r a ([0, 1, 2].drop b) s = (pairF lv r a b s).bind (runB lv r a ([0, 1, 2].drop (b + 1))) := by
 match b, hb with
 | 0, _ => rfl
 | 1, _ => rfl
 | 2, _ => rfl
theorem runA_step {lv : Nat → Bool} {r : List Nat} {a : Nat} (ha : a < 3) (s : St) : runA lv r ([0, 1, 2].drop a) s = (runB lv r a ([0, 1, 2].drop 0) s).bind (runA lv r ([0, 1, 2].drop (a + 1))) := by
 match a, ha with
 | 0, _ => rfl
 | 1, _ => rfl
 | 2, _ => rfl
section
variable {lv : Nat → Bool} {r : List Nat} {a b : Nat} {s : St}
theorem pairF_skip (h : a = 2 ∧ b = 2) : pairF lv r a b s = some s := by unfold pairF; rw [if_pos h]
theorem pairF_dead (h : ¬ (a = 2 ∧ b = 2)) (hl : lv (r.getD (a + 3 * b) 0) = false) : pairF lv r a b s = some s := by unfold pairF; rw [if_neg h, if_pos hl]
theorem pairF_bad (h : ¬ (a = 2 ∧ b = 2)) (hl : lv (r.getD (a + 3 * b) 0) = true) (hb : a = 2 ∨ b = 2 ∨ 0 ≤ s.2.1.getD a (-1)) : pairF lv r a b s = none := by unfold pairF; rw [if_neg h, if_neg (by rw [hl]; simp), if_pos hb]
theorem pairF_hit (ha : a < 2) (hb : b < 2) (hl : lv (r.getD (a + 3 * b) 0) = true) (hN : s.2.1.getD a (-1) < 0) {j : Nat} (hf : find id (r.getD (a + 3 * b) 0) s.1 = some j) : pairF lv r a b s = some (s.1, s.2.1.set a (j : Int), s.2.2.set a (ab b)) := by
 unfold pairF
 rw [if_neg (by omega), if_neg (by rw [hl]; simp), if_neg (by omega), hf]
theorem pairF_miss (ha : a < 2) (hb : b < 2) (hl : lv (r.getD (a + 3 * b) 0) = true) (hN : s.2.1.getD a (-1) < 0) (hf : find id (r.getD (a + 3 * b) 0) s.1 = none) : pairF lv r a b s = some (s.1 ++ [r.getD (a + 3 * b) 0], s.2.1.set a (s.1.length : Int), s.2.2.set a (ab b)) := by
 unfold pairF
 rw [if_neg (by omega), if_neg (by rw [hl]; simp), if_neg (by omega), hf]
end
theorem two_lit (W : World) (e : Nat) (x y : Int) : (Kd.int .i64).C (W.alloc (.cells #[.int .i64 x, .int .i64 y] e)) (some ⟨W.heap.size, 0, none⟩) 2 [x, y] := by
 refine Kd.C_of_reads (d := 0) ⟨rfl, by decide, fun _ => ⟨_, rfl, fun j hj => ?_⟩⟩
 have hc := blk_cell (blk_new W (.cells #[.int .i64 x, .int .i64 y] e)) j
 have ea : (⟨W.heap.size, 0, none⟩ : Addr).add j = ⟨W.heap.size, j, none⟩ := by
  by_cases h0 : j = 0
  ·subst h0; rfl
  ·simp [Addr.add, h0]
 rw [ea, hc]
 match j, hj with
 | 0, _ => rfl
 | 1, _ => rfl
theorem encI_get {l : List Int} (h : l.length = 2) {a : Nat} (ha : a < 2) : (encI l)[a]? = some (.int .i64 (l.getD a (-1))) := by
 have hl : a < l.length := by omega
 simp [encI, encs, List.getD_eq_getElem?_getD, hl]
theorem encT_get {l : List ByteArray} (h : l.length = 2) {a : Nat} (ha : a < 2) : (encT l)[a]? = some (.string (l.getD a ⟨#[]⟩)) := by
 have hl : a < l.length := by omega
 simp [encT, encs, List.getD_eq_getElem?_getD, hl]
/-- What holds of the list and the arrays while a row is made. -/
structure Inv (n : Nat) (li : List Nat) (s : St) : Prop where
 pre : ∃ m, s.1 = li ++ m
 lt : ∀ q ∈ s.1, q < n
 nd : s.1.Nodup
 lN : s.2.1.length = 2
 lO : s.2.2.length = 2
theorem Inv.le {n : Nat} {li : List Nat} {s : St} (h : Inv n li s) : s.1.length ≤ n := by
 have := Go.Proofs.YtnjdkhnepmmfgaaDoor.Tdy.nodup_le (l := s.1) (m := List.range n) h.nd (fun x hx => List.mem_range.2 (h.lt x hx))
 rwa [List.length_range] at this
theorem Inv.start {n : Nat} {li : List Nat} (h : ∀ q ∈ li, q < n) (hd : li.Nodup) : Inv n li (li, [-1, -1], [⟨#[]⟩, ⟨#[]⟩]) := ⟨⟨[], by simp⟩, h, hd, rfl, rfl⟩
theorem Inv.set {n : Nat} {li : List Nat} {s : St} (h : Inv n li s) (a : Nat) (x : Int) (t : ByteArray) : Inv n li (s.1, s.2.1.set a x, s.2.2.set a t) := ⟨h.pre, h.lt, h.nd, by simp [h.lN], by simp [h.lO]⟩
theorem Inv.more {n : Nat} {li : List Nat} {s : St} (h : Inv n li s) {t : Nat} (ht : t < n) (hf : find id t s.1 = none) (a : Nat) (x : Int) (u : ByteArray) : Inv n li (s.1 ++ [t], s.2.1.set a x, s.2.2.set a u) := by
 obtain ⟨m, hm⟩ := h.pre
 refine ⟨⟨m ++ [t], by simp [hm]⟩, fun q hq => (List.mem_append.1 hq).elim (h.lt q) (fun h2 => by rw [List.mem_singleton.1 h2]; exact ht), ?_, by simp [h.lN], by simp [h.lO]⟩
 refine List.nodup_append.2 ⟨h.nd, by simp, fun x hx y hy e => ?_⟩
 rw [List.mem_singleton] at hy
 subst hy
 exact find_none hf x hx e
theorem Inv.get {n : Nat} {li : List Nat} {s : St} (h : Inv n li s) {i : Nat} (hi : i < li.length) : ∃ h2 : i < s.1.length, s.1[i] = li[i] ∧ s.1.take (i + 1) = li.take i ++ [li[i]] := by
 obtain ⟨m, hm⟩ := h.pre
 have h2 : i < s.1.length := by rw [hm, List.length_append]; omega
 refine ⟨h2, ?_, ?_⟩
 ·simp only [hm]
  rw [List.getElem_append_left hi]
 ·rw [hm, List.take_append_of_le_length (by omega), List.take_succ_eq_append_getElem hi]
/-- What stands in memory while a row is made. -/
structure Now (w0 : World) (gX mb gN gO : Nat) (vL : Value) (s : St) (vA : Value) (bs : List Bool) (vN : Value) (nx : List (List Int)) (vO : Value) (ot : List (List ByteArray)) (W : World) : Prop where
 m : Mem w0 gX mb (some gN) (some gO) (ints s.1) vL s.1 vA bs vN nx vO ot W
 bN : W.heap[gN]? = some (.cells (encI s.2.1) 78 (0, 0))
 bO : W.heap[gO]? = some (.cells (encT s.2.2) 79 (0, 0))
 hN : w0.heap.size ≤ gN
 hO : w0.heap.size ≤ gO
section
variable {w0 : World} {gX mb gN gO : Nat} {vL : Value} {s : St} {vA : Value} {bs : List Bool} {vN : Value} {nx : List (List Int)} {vO : Value} {ot : List (List ByteArray)} {W W' : World}
theorem Now.step (h : Now w0 gX mb gN gO vL s vA bs vN nx vO ot W) (hb : Below W.heap.size W W') : Now w0 gX mb gN gO vL s vA bs vN nx vO ot W' := ⟨h.m.step hb, blk_below h.bN hb, blk_below h.bO hb, h.hN, h.hO⟩
theorem encI_set (l : List Int) (a : Nat) (x : Int) : (encI l).setIfInBounds a (.int .i64 x) = encI (l.set a x) := by simp [encI, encs]
theorem encT_set (l : List ByteArray) (a : Nat) (x : ByteArray) : (encT l).setIfInBounds a (.string x) = encT (l.set a x) := by simp [encT, encs]
theorem Now.set (h : Now w0 gX mb gN gO vL s vA bs vN nx vO ot W) (a : Nat) (x : Int) (t : ByteArray) : Now w0 gX mb gN gO vL (s.1, s.2.1.set a x, s.2.2.set a t) vA bs vN nx vO ot ((W.setCell ⟨gN, a, none⟩ (.int .i64 x)).setCell ⟨gO, a, none⟩ (.string t)) := by
 have k1 := Keep.set W ⟨gN, a, none⟩ (.int .i64 x)
 have b1 := k1.obj h.bO (off_ne h.bO (Off.cells h.bN (by decide)))
 have b2 := blk_put h.bN a (.int .i64 x) (encI_set _ _ _)
 have k2 := Keep.set (W.setCell ⟨gN, a, none⟩ (.int .i64 x)) ⟨gO, a, none⟩ (.string t)
 exact ⟨(h.m.setN h.bN h.hN a _).setO b1 h.hO a _, k2.obj b2 (off_ne b2 (Off.cells b1 (by decide))), blk_put b1 a (.string t) (encT_set _ _ _), h.hN, h.hO⟩
/-- An entry is put into the map, then the list gets one more. -/
theorem Now.push {W1 : World} {t : Nat} (h : Now w0 gX mb gN gO vL s vA bs vN nx vO ot W) (hg : W.grownBy W1 (some mb)) (hF : FMap Tryd.prog 3 W1 mb (GwI.ents (ints (s.1 ++ [t])))) :
  Mem w0 gX mb (some gN) (some gO) (ints (s.1 ++ [t])) vL s.1 vA bs vN nx vO ot W1 ∧ W1.heap[gN]? = some (.cells (encI s.2.1) 78 (0, 0)) ∧ W1.heap[gO]? = some (.cells (encT s.2.2) 79 (0, 0)) := by
 have k := Keep.grown hg
 exact ⟨h.m.put hg hF, k.obj h.bN (off_ne h.bN (Off.map h.m.map _)), k.obj h.bO (off_ne h.bO (Off.map h.m.map _))⟩
theorem Mem.now {v1 : Value} {t : Nat} (h : Mem w0 gX mb (some gN) (some gO) (ints (s.1 ++ [t])) vL s.1 vA bs vN nx vO ot W) (bN : W.heap[gN]? = some (.cells (encI s.2.1) 78 (0, 0))) (bO : W.heap[gO]? = some (.cells (encT s.2.2) 79 (0, 0))) (hN : w0.heap.size ≤ gN) (hO : w0.heap.size ≤ gO)
  (hg : W.grownBy W' vL.ownBlock) (hR : Kd.R (Kd.int .i64) 3 W' w0.heap.size (fun _ => True) v1 (ints (s.1 ++ [t]))) (hb : Below w0.heap.size w0 W') : Now w0 gX mb gN gO v1 (s.1 ++ [t], s.2) vA bs vN nx vO ot W' := by
 have k := Keep.grown hg
 exact ⟨h.push hg hR hb, k.obj bN (off_ne bN (Off.row h.lst (by decide))), k.obj bO (off_ne bO (Off.row h.lst (by decide))), hN, hO⟩
theorem Now.mark {v1 : Value} {bs' : List Bool} (h : Now w0 gX mb gN gO vL s vA bs vN nx vO ot W) (hg : W.grownBy W' vA.ownBlock) (hR : Kd.R Kd.bool 4 W' w0.heap.size (fun _ => True) v1 bs') (hb : Below w0.heap.size w0 W') :
  W'.heap[gX]? = some (.cells #[vA, vN, vO] 37 (0, 0)) ∧ Now w0 gX mb gN gO vL s v1 bs' vN nx vO ot (W'.setCell ⟨gX, 0, none⟩ v1) := by
 obtain ⟨b, m⟩ := h.m.mark hg hR hb
 have k := Keep.grown hg
 have n1 := k.obj h.bN (off_ne h.bN (Off.row h.m.acc (by decide)))
 have o1 := k.obj h.bO (off_ne h.bO (Off.row h.m.acc (by decide)))
 have hs := Keep.set W' ⟨gX, 0, none⟩ v1
 exact ⟨b, m, hs.obj n1 (off_ne n1 (Off.cells b (by decide))), hs.obj o1 (off_ne o1 (Off.cells b (by decide))), h.hN, h.hO⟩
theorem Now.addN {v1 : Value} {nx' : List (List Int)} (h : Now w0 gX mb gN gO vL s vA bs vN nx vO ot W) (hg : W.grownBy W' vN.ownBlock) (hR : Kd.R Pair 78 W' w0.heap.size (fun k => some k ≠ some gN) v1 nx') (hb : Below w0.heap.size w0 W') :
  W'.heap[gX]? = some (.cells #[vA, vN, vO] 37 (0, 0)) ∧ Mem w0 gX mb (some gN) (some gO) (ints s.1) vL s.1 vA bs v1 nx' vO ot (W'.setCell ⟨gX, 1, none⟩ v1) ∧ (W'.setCell ⟨gX, 1, none⟩ v1).heap[gO]? = some (.cells (encT s.2.2) 79 (0, 0)) := by
 obtain ⟨b, m⟩ := h.m.addN hg hR hb
 have k := Keep.grown hg
 have o1 := k.obj h.bO (off_ne h.bO (Off.row h.m.nxt (by decide)))
 have hs := Keep.set W' ⟨gX, 1, none⟩ v1
 exact ⟨b, m, hs.obj o1 (off_ne o1 (Off.cells b (by decide)))⟩
end
theorem info_pair : (Tryd.prog.info? 78).map (fun i => (i.zero, i.size, i.bytes)) = some (some (.agg #[.int .i64 0, .int .i64 0]), 2, 16) := by kernel_rfl
theorem info_text2 : (Tryd.prog.info? 79).map (fun i => (i.zero, i.size, i.bytes)) = some (some (.agg #[.string ⟨#[]⟩, .string ⟨#[]⟩]), 2, 32) := by kernel_rfl
end Go.Proofs.YtnjdkhnepmmfgaaDoor.Sb
namespace Go.Proofs.YtnjdkhnepmmfgaaDoor.Mk2
set_option linter.unusedVariables false
set_option linter.unusedSimpArgs false
open Go Go.RowKit Go.Proofs.YtnjdkhnepmmfgaaDoorW.PrintWords Go.Proofs.YtnjdkhnepmmfgaaDoorW.PrintLast Go.Proofs.YtnjdkhnepmmfgaaDoorW.PrintMore Kp Mg Mk Mtx
set_option maxHeartbeats 2000000 in
theorem heldSc (n n2 n3 T2 T3 T4 : Nat) (A1 : Option Addr) (c1 : Nat) (A2 : Option Addr) (c2 : Nat) (A3 : Option Addr) (c3 : Nat) (w : World) (base : Nat) (h1 : Kd.C Kd.bool w A1 n (mB 1 n)) (h2 : w.ownsRow base 78 2 (.slice A2 n2 c2) n2 (mV (vI T2) (2 * n2))) (h3 : w.ownsRow base 79 2 (.slice A3 n3 c3) n3 (mV (vT T3) (2 * n3)))
  (e2 : 1 + n = T2) (e3 : T2 + 2 * n2 = T3) (e4 : T3 + 2 * n3 = T4) (hk : T4 ≤ 1000000000) :
  Calls Tryd.prog 17 #[.agg #[.slice A1 n c1, .slice A2 n2 c2, .slice A3 n3 c3], .int .i64 1] w fun e w' => e = .returned (.int .i64 (T4 : Int)) ∧ Below w.heap.size w w' := by
 have hP := blk_new w (.cells #[.slice A1 n c1, .slice A2 n2 c2, .slice A3 n3 c3] 37)
 have hb1 : Below w.heap.size w (w.alloc (.cells #[.slice A1 n c1, .slice A2 n2 c2, .slice A3 n3 c3] 37)) := below_alloc (Below.refl _ _) _
 have m0 := (blk_cell hP 0).trans (rfl : _ = some (Value.slice A1 n c1))
 have g1 := Aside0.mk (Kd.C_below h1 hb1)
 have z2 : ((T2 : Int) < 0) = False := eq_false (by omega)
 have z3 : ((T3 : Int) < 0) = False := eq_false (by omega)
 have z4 : ((T4 : Int) < 0) = False := eq_false (by omega)
 have a2 := Aside0.mk e2
 have a3 := Aside0.mk e3
 have a4 := Aside0.mk e4
 have ak := Aside0.mk hk
 have h2q := Aside0.mk h2
 have h3q := Aside0.mk h3
 have hPq := Aside0.mk hP
 have hbq := Aside0.mk hb1
 clear e2 e3 e4 hk h1 h2 h3 hP hb1
 go_enter Tryd.func17, Tryd.ntmps17
 go_wp2_with (first
  | (go_at_call 36; go_loud (
    have q : Calls Tryd.prog 36 #[.slice A1 n c1, .int .i64 1] _ _ := heldB 1 n A1 c1 _ g1.out (by have := a2.out; have := a3.out; have := a4.out; have := ak.out; omega)
    rw [a2.out] at q
    with_reducible refine q.mono ?_
    clear q
    rintro e w2 ⟨rfl, hb2⟩
    have hP2 := Aside0.mk (blk_below hPq.out hb2)
    have m1 : w2.cell? ⟨w.heap.size, 1, none⟩ = some (.slice A2 n2 c2) := (blk_cell hP2.out 1).trans rfl
    have hB2 := Aside0.mk (below_step hbq.out hb2)))
  | (go_at_call 48; go_loud (
    have q := heldI2 T2 n2 A2 c2 w2 base (own_move h2q.out (fun b hb => hB2.out.block b (own_lt h2q.out b hb))) (by have := a3.out; have := a4.out; have := ak.out; omega)
    rw [a3.out] at q
    with_reducible refine q.mono ?_
    clear q
    rintro e w3 ⟨rfl, hb3⟩
    have hP3 := Aside0.mk (blk_below hP2.out hb3)
    have m2 : w3.cell? ⟨w.heap.size, 2, none⟩ = some (.slice A3 n3 c3) := (blk_cell hP3.out 2).trans rfl
    have hB3 := Aside0.mk (below_step hB2.out hb3)))
  | (go_at_call 49; go_loud (
    have q := heldT2 T3 n3 A3 c3 w3 base (own_move h3q.out (fun b hb => hB3.out.block b (own_lt h3q.out b hb))) (by have := a4.out; have := ak.out; omega)
    rw [a4.out] at q
    with_reducible refine q.mono ?_
    clear q
    rintro e w4 ⟨rfl, hb4⟩
    have hB4 := Aside0.mk (below_step hB3.out hb4))))
 go_ret
 exact ⟨rfl, hB4.out⟩
end Go.Proofs.YtnjdkhnepmmfgaaDoor.Mk2
namespace Go.Proofs.YtnjdkhnepmmfgaaDoor.Sp
set_option linter.unusedVariables false
set_option linter.unusedSimpArgs false
open Go.RowKit Go.Proofs.YtnjdkhnepmmfgaaDoorW.PrintWords Go.Proofs.YtnjdkhnepmmfgaaDoorW.PrintLast Go.Proofs.YtnjdkhnepmmfgaaDoorW.PrintMore Mp Kp Mg Tdy Rg Tw Sb
/-- What stands in memory: the scribe, the table of numbers, the list; xN and xO: the arrays of the round. All of it is newer than w0. -/
structure MemS (w0 : World) (gX gT nT cT : Nat) (xN xO : Option Nat) (tab : List Int) (vL : Value) (li : List Nat) (vA : Value) (bs : List Bool) (vN : Value) (nx : List (List Int)) (vO : Value) (ot : List (List ByteArray)) (W : World) : Prop where
 bX : W.heap[gX]? = some (.cells #[vA, vN, vO] 37 (0, 0))
 tab : SR W w0.heap.size (.slice (some ⟨gT, 0, none⟩) nT cT) tab
 lst : SR W w0.heap.size vL (ints li)
 acc : Kd.R Kd.bool 4 W w0.heap.size (fun _ => True) vA bs
 nxt : Kd.R Pair 78 W w0.heap.size (fun k => some k ≠ xN) vN nx
 out : Kd.R Text2 79 W w0.heap.size (fun k => some k ≠ xO) vO ot
 hX : w0.heap.size ≤ gX
 tl : some gT ≠ vL.ownBlock
 bel : Below w0.heap.size w0 W
section
variable {w0 : World} {gX gT nT cT : Nat} {xN xO : Option Nat} {tab : List Int} {vL : Value} {li : List Nat} {vA : Value} {bs : List Bool} {vN : Value} {nx : List (List Int)} {vO : Value} {ot : List (List ByteArray)} {W W' : World}
theorem MemS.step (h : MemS w0 gX gT nT cT xN xO tab vL li vA bs vN nx vO ot W) (hb : Below W.heap.size W W') : MemS w0 gX gT nT cT xN xO tab vL li vA bs vN nx vO ot W' :=
 ⟨blk_below h.bX hb, Kd.R_below h.tab hb, Kd.R_below h.lst hb, Kd.R_below h.acc hb, Kd.R_below h.nxt hb, Kd.R_below h.out hb, h.hX, h.tl, below_step h.bel hb⟩
/-- The table is written. -/
theorem MemS.set (h : MemS w0 gX gT nT cT xN xO tab vL li vA bs vN nx vO ot W) (hg : w0.heap.size ≤ gT) (i : Nat) (x : Int) : MemS w0 gX gT nT cT xN xO (tab.set i x) vL li vA bs vN nx vO ot (W.setCell ⟨gT, i, none⟩ (.int .i64 x)) := by
 have hk := Keep.set W ⟨gT, i, none⟩ (.int .i64 x)
 have o : ∀ E : List Nat, (∀ q ∈ E, q ≠ 2) → Off W (some gT) E := fun E hE => Off.row h.tab hE
 exact ⟨hk.obj h.bX (off_ne h.bX (o _ (by decide))), Kd.R_putn h.tab (i : Int) x, h.lst.move hk (fun k e e2 => by cases e2; exact h.tl e.symm), R_off h.acc hk (o _ (by decide)), R_off h.nxt hk (o _ (by decide)), R_off h.out hk (o _ (by decide)), h.hX, h.tl, h.bel.setCell hg _⟩
theorem MemS.push (h : MemS w0 gX gT nT cT xN xO tab vL li vA bs vN nx vO ot W) {v1 : Value} {li' : List Nat} (hgT : gT < W.heap.size) (hg : W.grownBy W' vL.ownBlock) (hat : v1.ownBlock = vL.ownBlock ∨ ∃ b, v1.ownBlock = some b ∧ W.heap.size ≤ b) (hR : SR W' w0.heap.size v1 (ints li')) (hb : Below w0.heap.size w0 W') : MemS w0 gX gT nT cT xN xO tab v1 li' vA bs vN nx vO ot W' := by
 have hk := Keep.grown hg
 have o : ∀ E : List Nat, (∀ q ∈ E, q ≠ 2) → Off W vL.ownBlock E := fun E hE => Off.row h.lst hE
 exact ⟨hk.obj h.bX (off_ne h.bX (o _ (by decide))), h.tab.move hk (fun k e e2 => by cases e; exact h.tl e2), hR, R_off h.acc hk (o _ (by decide)), R_off h.nxt hk (o _ (by decide)), R_off h.out hk (o _ (by decide)), h.hX, ne_after hat hgT h.tl, hb⟩
/-- The arrays of the round are new. -/
theorem MemS.begin (h : MemS w0 gX gT nT cT none none tab vL li vA bs vN nx vO ot W) {gN gO : Nat} (hN : W.heap.size ≤ gN) (hO : W.heap.size ≤ gO) : MemS w0 gX gT nT cT (some gN) (some gO) tab vL li vA bs vN nx vO ot W :=
 ⟨h.bX, h.tab, h.lst, h.acc, Kd.R_mono (Kd.R_bound h.nxt) (fun k hk e => by have h1 := hk.2.2.1; have h2 := Option.some.inj e; omega), Kd.R_mono (Kd.R_bound h.out) (fun k hk e => by have h1 := hk.2.2.1; have h2 := Option.some.inj e; omega), h.hX, h.tl, h.bel⟩
theorem MemS.setN {gN : Nat} {c : Array Value} (h : MemS w0 gX gT nT cT (some gN) xO tab vL li vA bs vN nx vO ot W) (hb : W.heap[gN]? = some (.cells c 78 (0, 0))) (hg : w0.heap.size ≤ gN) (i : Nat) (v : Value) : MemS w0 gX gT nT cT (some gN) xO tab vL li vA bs vN nx vO ot (W.setCell ⟨gN, i, none⟩ v) := by
 have hk := Keep.set W ⟨gN, i, none⟩ v
 have o : ∀ E : List Nat, (∀ q ∈ E, q ≠ 78) → Off W (some gN) E := fun E hE => Off.cells hb hE
 have hn := R_apart (ok := fun k => some k ≠ some gN) (Kd.R_mono h.nxt (fun k hk => ⟨hk, hk⟩)) hk
 exact ⟨hk.obj h.bX (off_ne h.bX (o _ (by decide))), R_off h.tab hk (o _ (by decide)), R_off h.lst hk (o _ (by decide)), R_off h.acc hk (o _ (by decide)), Kd.R_mono hn (fun k hk => hk.1), R_off h.out hk (o _ (by decide)), h.hX, h.tl, h.bel.setCell hg _⟩
theorem MemS.setO {gO : Nat} {c : Array Value} (h : MemS w0 gX gT nT cT xN (some gO) tab vL li vA bs vN nx vO ot W) (hb : W.heap[gO]? = some (.cells c 79 (0, 0))) (hg : w0.heap.size ≤ gO) (i : Nat) (v : Value) : MemS w0 gX gT nT cT xN (some gO) tab vL li vA bs vN nx vO ot (W.setCell ⟨gO, i, none⟩ v) := by
 have hk := Keep.set W ⟨gO, i, none⟩ v
 have o : ∀ E : List Nat, (∀ q ∈ E, q ≠ 79) → Off W (some gO) E := fun E hE => Off.cells hb hE
 have hn := R_apart (ok := fun k => some k ≠ some gO) (Kd.R_mono h.out (fun k hk => ⟨hk, hk⟩)) hk
 exact ⟨hk.obj h.bX (off_ne h.bX (o _ (by decide))), R_off h.tab hk (o _ (by decide)), R_off h.lst hk (o _ (by decide)), R_off h.acc hk (o _ (by decide)), R_off h.nxt hk (o _ (by decide)), Kd.R_mono hn (fun k hk => hk.1), h.hX, h.tl, h.bel.setCell hg _⟩
/-- A mark is put behind the marks. -/
theorem MemS.mark {v1 : Value} {bs' : List Bool} (h : MemS w0 gX gT nT cT xN xO tab vL li vA bs vN nx vO ot W) (hg : W.grownBy W' vA.ownBlock) (hR : Kd.R Kd.bool 4 W' w0.heap.size (fun _ => True) v1 bs') (hb : Below w0.heap.size w0 W') :
  W'.heap[gX]? = some (.cells #[vA, vN, vO] 37 (0, 0)) ∧ MemS w0 gX gT nT cT xN xO tab vL li v1 bs' vN nx vO ot (W'.setCell ⟨gX, 0, none⟩ v1) := by
 have hk := Keep.grown hg
 have o : ∀ E : List Nat, (∀ q ∈ E, q ≠ 4) → Off W vA.ownBlock E := fun E hE => Off.row h.acc hE
 have b := hk.obj h.bX (off_ne h.bX (o _ (by decide)))
 have hs := Keep.set W' ⟨gX, 0, none⟩ v1
 have p : ∀ E : List Nat, (∀ q ∈ E, q ≠ 37) → Off W' (some gX) E := fun E hE => Off.cells b hE
 exact ⟨b, blk_put b 0 v1 rfl, R_off (R_off h.tab hk (o _ (by decide))) hs (p _ (by decide)), R_off (R_off h.lst hk (o _ (by decide))) hs (p _ (by decide)), R_off hR hs (p _ (by decide)), R_off (R_off h.nxt hk (o _ (by decide))) hs (p _ (by decide)), R_off (R_off h.out hk (o _ (by decide))) hs (p _ (by decide)), h.hX, h.tl, hb.setCell h.hX _⟩
theorem MemS.addN {v1 : Value} {nx' : List (List Int)} (h : MemS w0 gX gT nT cT xN xO tab vL li vA bs vN nx vO ot W) (hg : W.grownBy W' vN.ownBlock) (hR : Kd.R Pair 78 W' w0.heap.size (fun k => some k ≠ xN) v1 nx') (hb : Below w0.heap.size w0 W') :
  W'.heap[gX]? = some (.cells #[vA, vN, vO] 37 (0, 0)) ∧ MemS w0 gX gT nT cT xN xO tab vL li vA bs v1 nx' vO ot (W'.setCell ⟨gX, 1, none⟩ v1) := by
 have hk := Keep.grown hg
 have o : ∀ E : List Nat, (∀ q ∈ E, q ≠ 78) → Off W vN.ownBlock E := fun E hE => Off.row h.nxt hE
 have b := hk.obj h.bX (off_ne h.bX (o _ (by decide)))
 have hs := Keep.set W' ⟨gX, 1, none⟩ v1
 have p : ∀ E : List Nat, (∀ q ∈ E, q ≠ 37) → Off W' (some gX) E := fun E hE => Off.cells b hE
 exact ⟨b, blk_put b 1 v1 rfl, R_off (R_off h.tab hk (o _ (by decide))) hs (p _ (by decide)), R_off (R_off h.lst hk (o _ (by decide))) hs (p _ (by decide)), R_off (R_off h.acc hk (o _ (by decide))) hs (p _ (by decide)), R_off hR hs (p _ (by decide)), R_off (R_off h.out hk (o _ (by decide))) hs (p _ (by decide)), h.hX, h.tl, hb.setCell h.hX _⟩
theorem MemS.addO {v1 : Value} {ot' : List (List ByteArray)} (h : MemS w0 gX gT nT cT xN xO tab vL li vA bs vN nx vO ot W) (hg : W.grownBy W' vO.ownBlock) (hR : Kd.R Text2 79 W' w0.heap.size (fun k => some k ≠ xO) v1 ot') (hb : Below w0.heap.size w0 W') :
  W'.heap[gX]? = some (.cells #[vA, vN, vO] 37 (0, 0)) ∧ MemS w0 gX gT nT cT xN xO tab vL li vA bs vN nx v1 ot' (W'.setCell ⟨gX, 2, none⟩ v1) := by
 have hk := Keep.grown hg
 have o : ∀ E : List Nat, (∀ q ∈ E, q ≠ 79) → Off W vO.ownBlock E := fun E hE => Off.row h.out hE
 have b := hk.obj h.bX (off_ne h.bX (o _ (by decide)))
 have hs := Keep.set W' ⟨gX, 2, none⟩ v1
 have p : ∀ E : List Nat, (∀ q ∈ E, q ≠ 37) → Off W' (some gX) E := fun E hE => Off.cells b hE
 exact ⟨b, blk_put b 2 v1 rfl, R_off (R_off h.tab hk (o _ (by decide))) hs (p _ (by decide)), R_off (R_off h.lst hk (o _ (by decide))) hs (p _ (by decide)), R_off (R_off h.acc hk (o _ (by decide))) hs (p _ (by decide)), R_off (R_off h.nxt hk (o _ (by decide))) hs (p _ (by decide)), R_off hR hs (p _ (by decide)), h.hX, h.tl, hb.setCell h.hX _⟩
theorem MemS.done (h : MemS w0 gX gT nT cT xN xO tab vL li vA bs vN nx vO ot W) : MemS w0 gX gT nT cT none none tab vL li vA bs vN nx vO ot W :=
 ⟨h.bX, h.tab, h.lst, h.acc, Kd.R_mono h.nxt (fun _ _ => by simp), Kd.R_mono h.out (fun _ _ => by simp), h.hX, h.tl, h.bel⟩
end
/-- What stands in memory while a row is made. -/
structure NowS (w0 : World) (gX gT nT cT gN gO : Nat) (tab : List Int) (vL : Value) (s : St) (vA : Value) (bs : List Bool) (vN : Value) (nx : List (List Int)) (vO : Value) (ot : List (List ByteArray)) (W : World) : Prop where
 m : MemS w0 gX gT nT cT (some gN) (some gO) tab vL s.1 vA bs vN nx vO ot W
 bN : W.heap[gN]? = some (.cells (Sb.encI s.2.1) 78 (0, 0))
 bO : W.heap[gO]? = some (.cells (Sb.encT s.2.2) 79 (0, 0))
 hN : w0.heap.size ≤ gN
 hO : w0.heap.size ≤ gO
section
variable {w0 : World} {gX gT nT cT gN gO : Nat} {tab : List Int} {vL : Value} {s : St} {vA : Value} {bs : List Bool} {vN : Value} {nx : List (List Int)} {vO : Value} {ot : List (List ByteArray)} {W W' : World}
theorem NowS.step (h : NowS w0 gX gT nT cT gN gO tab vL s vA bs vN nx vO ot W) (hb : Below W.heap.size W W') : NowS w0 gX gT nT cT gN gO tab vL s vA bs vN nx vO ot W' := ⟨h.m.step hb, blk_below h.bN hb, blk_below h.bO hb, h.hN, h.hO⟩
theorem NowS.setN (h : NowS w0 gX gT nT cT gN gO tab vL s vA bs vN nx vO ot W) (a : Nat) (x : Int) : NowS w0 gX gT nT cT gN gO tab vL (s.1, s.2.1.set a x, s.2.2) vA bs vN nx vO ot (W.setCell ⟨gN, a, none⟩ (.int .i64 x)) := by
 have k1 := Keep.set W ⟨gN, a, none⟩ (.int .i64 x)
 exact ⟨h.m.setN h.bN h.hN a _, blk_put h.bN a (.int .i64 x) (Sb.encI_set _ _ _), k1.obj h.bO (off_ne h.bO (Off.cells h.bN (by decide))), h.hN, h.hO⟩
theorem NowS.setO (h : NowS w0 gX gT nT cT gN gO tab vL s vA bs vN nx vO ot W) (a : Nat) (x : ByteArray) : NowS w0 gX gT nT cT gN gO tab vL (s.1, s.2.1, s.2.2.set a x) vA bs vN nx vO ot (W.setCell ⟨gO, a, none⟩ (.string x)) := by
 have k1 := Keep.set W ⟨gO, a, none⟩ (.string x)
 exact ⟨h.m.setO h.bO h.hO a _, k1.obj h.bN (off_ne h.bN (Off.cells h.bO (by decide))), blk_put h.bO a (.string x) (Sb.encT_set _ _ _), h.hN, h.hO⟩
/-- The table is written. -/
theorem NowS.setT (h : NowS w0 gX gT nT cT gN gO tab vL s vA bs vN nx vO ot W) (hg : w0.heap.size ≤ gT) (i : Nat) (x : Int) : NowS w0 gX gT nT cT gN gO (tab.set i x) vL s vA bs vN nx vO ot (W.setCell ⟨gT, i, none⟩ (.int .i64 x)) := by
 have k1 := Keep.set W ⟨gT, i, none⟩ (.int .i64 x)
 exact ⟨h.m.set hg i x, k1.obj h.bN (off_ne h.bN (Off.row h.m.tab (by decide))), k1.obj h.bO (off_ne h.bO (Off.row h.m.tab (by decide))), h.hN, h.hO⟩
/-- The list gets one more. -/
theorem NowS.push (h : NowS w0 gX gT nT cT gN gO tab vL s vA bs vN nx vO ot W) {v1 : Value} {t : Nat} (hgT : gT < W.heap.size) (hg : W.grownBy W' vL.ownBlock) (hat : v1.ownBlock = vL.ownBlock ∨ ∃ b, v1.ownBlock = some b ∧ W.heap.size ≤ b) (hR : SR W' w0.heap.size v1 (ints (s.1 ++ [t]))) (hb : Below w0.heap.size w0 W') : NowS w0 gX gT nT cT gN gO tab v1 (s.1 ++ [t], s.2) vA bs vN nx vO ot W' := by
 have k := Keep.grown hg
 exact ⟨h.m.push hgT hg hat hR hb, k.obj h.bN (off_ne h.bN (Off.row h.m.lst (by decide))), k.obj h.bO (off_ne h.bO (Off.row h.m.lst (by decide))), h.hN, h.hO⟩
theorem NowS.mark {v1 : Value} {bs' : List Bool} (h : NowS w0 gX gT nT cT gN gO tab vL s vA bs vN nx vO ot W) (hg : W.grownBy W' vA.ownBlock) (hR : Kd.R Kd.bool 4 W' w0.heap.size (fun _ => True) v1 bs') (hb : Below w0.heap.size w0 W') :
  W'.heap[gX]? = some (.cells #[vA, vN, vO] 37 (0, 0)) ∧ NowS w0 gX gT nT cT gN gO tab vL s v1 bs' vN nx vO ot (W'.setCell ⟨gX, 0, none⟩ v1) := by
 obtain ⟨b, m⟩ := h.m.mark hg hR hb
 have k := Keep.grown hg
 have n1 := k.obj h.bN (off_ne h.bN (Off.row h.m.acc (by decide)))
 have o1 := k.obj h.bO (off_ne h.bO (Off.row h.m.acc (by decide)))
 have hs := Keep.set W' ⟨gX, 0, none⟩ v1
 exact ⟨b, m, hs.obj n1 (off_ne n1 (Off.cells b (by decide))), hs.obj o1 (off_ne o1 (Off.cells b (by decide))), h.hN, h.hO⟩
theorem NowS.addN {v1 : Value} {nx' : List (List Int)} (h : NowS w0 gX gT nT cT gN gO tab vL s vA bs vN nx vO ot W) (hg : W.grownBy W' vN.ownBlock) (hR : Kd.R Pair 78 W' w0.heap.size (fun k => some k ≠ some gN) v1 nx') (hb : Below w0.heap.size w0 W') :
  W'.heap[gX]? = some (.cells #[vA, vN, vO] 37 (0, 0)) ∧ MemS w0 gX gT nT cT (some gN) (some gO) tab vL s.1 vA bs v1 nx' vO ot (W'.setCell ⟨gX, 1, none⟩ v1) ∧ (W'.setCell ⟨gX, 1, none⟩ v1).heap[gO]? = some (.cells (Sb.encT s.2.2) 79 (0, 0)) := by
 obtain ⟨b, m⟩ := h.m.addN hg hR hb
 have k := Keep.grown hg
 have o1 := k.obj h.bO (off_ne h.bO (Off.row h.m.nxt (by decide)))
 have hs := Keep.set W' ⟨gX, 1, none⟩ v1
 exact ⟨b, m, hs.obj o1 (off_ne o1 (Off.cells b (by decide)))⟩
end
end Go.Proofs.YtnjdkhnepmmfgaaDoor.Sp
namespace Go.Proofs.YtnjdkhnepmmfgaaDoor.Sp
set_option linter.unusedVariables false
set_option linter.unusedSimpArgs false
open Go.RowKit Go.Proofs.YtnjdkhnepmmfgaaDoorW.PrintWords Go.Proofs.YtnjdkhnepmmfgaaDoorW.PrintLast Go.Proofs.YtnjdkhnepmmfgaaDoorW.PrintMore Mp Kp Mg Tdy Rg Tw Sb
/-! ### a row -/
abbrev Ar := List Int × List ByteArray
def colF (lv : Nat → Bool) (r : List Nat) (c : Nat) (s : Ar) : Option Ar :=
 if lv (r.getD c 0) = false then some s
 else if c % 3 = 2 ∨ c / 3 = 2 ∨ 0 ≤ s.1.getD (c % 3) (-1) then none
 else some (s.1.set (c % 3) (r.getD c 0 : Int), s.2.set (c % 3) (ab (c / 3)))
def colsF (lv : Nat → Bool) (r : List Nat) : List Nat → Ar → Option Ar
 | [], s => some s
 | c :: cs, s => (colF lv r c s).bind (colsF lv r cs)
/-- Place x gets its number. -/
def numF (x : Nat) (s : List Nat × List Int) : List Nat × List Int :=
 if s.2.getD x (-1) < 0 then s
 else match find id (s.2.getD x (-1)).toNat s.1 with
  | some j => (s.1, s.2.set x (j : Int))
  | none => (s.1 ++ [(s.2.getD x (-1)).toNat], s.2.set x (s.1.length : Int))
def rowS (lv : Nat → Bool) (r : List Nat) (li : List Nat) : Option St :=
 (colsF lv r [0, 1, 2, 3, 4, 5, 6, 7] ([-1, -1], [⟨#[]⟩, ⟨#[]⟩])).map fun p => ((numF 1 (numF 0 (li, p.1))).1, (numF 1 (numF 0 (li, p.1))).2, p.2)
theorem eight {α : Type} {l : List α} (h : l.length = 8) : ∃ a b c d e f g k, l = [a, b, c, d, e, f, g, k] := by
 match l, h with
 | [a, b, c, d, e, f, g, k], _ => exact ⟨a, b, c, d, e, f, g, k, rfl⟩
theorem nn (n : Nat) : ((n : Int) < 0) = False := eq_false (by omega)
theorem nn1 (n : Nat) : (0 ≤ (n : Int) + 1) = True := eq_true (by omega)
set_option maxHeartbeats 4000000 in
theorem rowS_eq (lv : Nat → Bool) {r : List Nat} (hr8 : r.length = 8) (li : List Nat) : rowS lv r li = rowT lv r li := by
 obtain ⟨t0, t1, t2, t3, t4, t5, t6, t7, rfl⟩ := eight hr8
 simp only [rowS, rowT, colsF, runA, runB]
 cases h2 : lv t2 <;> cases h5 : lv t5 <;> cases h6 : lv t6 <;> cases h7 : lv t7 <;> cases h0 : lv t0 <;> cases h3 : lv t3 <;> cases h1 : lv t1 <;> cases h4 : lv t4
 all_goals first
  | (simp [colF, pairF, h0, h1, h2, h3, h4, h5, h6, h7, numF, nn]; done)
  | (simp [colF, pairF, h0, h1, h2, h3, h4, h5, h6, h7, numF, nn]; cases find id t1 li <;> simp [nn, nn1] <;> done)
  | (simp [colF, pairF, h0, h1, h2, h3, h4, h5, h6, h7, numF, nn]; cases find id t4 li <;> simp [nn, nn1] <;> done)
  | (simp [colF, pairF, h0, h1, h2, h3, h4, h5, h6, h7, numF, nn]; cases find id t0 li <;> simp [nn, nn1] <;> done)
  | (simp [colF, pairF, h0, h1, h2, h3, h4, h5, h6, h7, numF, nn]; cases find id t3 li <;> simp [nn, nn1] <;> done)
  | (simp [colF, pairF, h0, h1, h2, h3, h4, h5, h6, h7, numF, nn]; cases find id t0 li <;> simp [nn, nn1] <;> (first | done | (cases find id t1 li <;> simp [nn, nn1] <;> done) | (cases find id t1 (li ++ [t0]) <;> simp [nn, nn1] <;> done)))
  | (simp [colF, pairF, h0, h1, h2, h3, h4, h5, h6, h7, numF, nn]; cases find id t0 li <;> simp [nn, nn1] <;> (first | done | (cases find id t4 li <;> simp [nn, nn1] <;> done) | (cases find id t4 (li ++ [t0]) <;> simp [nn, nn1] <;> done)))
  | (simp [colF, pairF, h0, h1, h2, h3, h4, h5, h6, h7, numF, nn]; cases find id t3 li <;> simp [nn, nn1] <;> (first | done | (cases find id t1 li <;> simp [nn, nn1] <;> done) | (cases find id t1 (li ++ [t3]) <;> simp [nn, nn1] <;> done)))
  | (simp [colF, pairF, h0, h1, h2, h3, h4, h5, h6, h7, numF, nn]; cases find id t3 li <;> simp [nn, nn1] <;> (first | done | (cases find id t4 li <;> simp [nn, nn1] <;> done) | (cases find id t4 (li ++ [t3]) <;> simp [nn, nn1] <;> done)))
/-- The arrays of a round: nothing, or a state. -/
structure ArOk (n : Nat) (p : Ar) : Prop where
 lN : p.1.length = 2
 lO : p.2.length = 2
 st : ∀ x ∈ p.1, x = -1 ∨ ∃ t : Nat, t < n ∧ x = (t : Int)
theorem ArOk.start (n : Nat) : ArOk n ([-1, -1], [⟨#[]⟩, ⟨#[]⟩]) := ⟨rfl, rfl, fun x hx => by
 simp only [List.mem_cons, List.not_mem_nil, or_false, or_self] at hx
 exact .inl hx⟩
theorem ArOk.set {n : Nat} {p : Ar} (h : ArOk n p) (x : Nat) {t : Nat} (ht : t < n) (u : ByteArray) : ArOk n (p.1.set x (t : Int), p.2.set x u) :=
 ⟨by simp [h.lN], by simp [h.lO], fun y hy => (List.mem_or_eq_of_mem_set hy).elim (h.st y) (fun e => .inr ⟨t, ht, e⟩)⟩
theorem colsF_step {lv : Nat → Bool} {r : List Nat} {c : Nat} (hc : c < 8) (s : Ar) : colsF lv r ([0, 1, 2, 3, 4, 5, 6, 7].drop c) s = (colF lv r c s).bind (colsF lv r ([0, 1, 2, 3, 4, 5, 6, 7].drop (c + 1))) := by
 match c, hc with
 | 0, _ => rfl
 | 1, _ => rfl
 | 2, _ => rfl
 | 3, _ => rfl
 | 4, _ => rfl
 | 5, _ => rfl
 | 6, _ => rfl
 | 7, _ => rfl
theorem colF_dead {lv : Nat → Bool} {r : List Nat} {c : Nat} {s : Ar} (h : lv (r.getD c 0) = false) : colF lv r c s = some s := by unfold colF; rw [if_pos h]
theorem colF_bad {lv : Nat → Bool} {r : List Nat} {c : Nat} {s : Ar} (h : lv (r.getD c 0) = true) (hb : c % 3 = 2 ∨ c / 3 = 2 ∨ 0 ≤ s.1.getD (c % 3) (-1)) : colF lv r c s = none := by unfold colF; rw [if_neg (by rw [h]; simp), if_pos hb]
theorem colF_good {lv : Nat → Bool} {r : List Nat} {c : Nat} {s : Ar} (h : lv (r.getD c 0) = true) (hb : ¬ (c % 3 = 2 ∨ c / 3 = 2 ∨ 0 ≤ s.1.getD (c % 3) (-1))) : colF lv r c s = some (s.1.set (c % 3) (r.getD c 0 : Int), s.2.set (c % 3) (ab (c / 3))) := by unfold colF; rw [if_neg (by rw [h]; simp), if_neg hb]
end Go.Proofs.YtnjdkhnepmmfgaaDoor.Sp
