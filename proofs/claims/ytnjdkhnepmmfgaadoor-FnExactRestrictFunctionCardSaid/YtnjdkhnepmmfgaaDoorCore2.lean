/- Parts of the proof, put together by a program of the session. -/
import Derived.Test.YtnjdkhnepmmfgaaDoorCore0
import Derived.Test.YtnjdkhnepmmfgaaDoorCore1
import Derived.Test.YtnjdkhnepmmfgaaDoorCWords
import Derived.Test.YtnjdkhnepmmfgaaDoorCLast
import Derived.Lib.SlicesS
import Derived.Test.YtnjdkhnepmmfgaaDoorProg
import Derived.Below
import Derived.Deep.Draws
import Derived.Deep.AppendLies
import Derived.Maps.AppendAt
import Derived.OwnWalk
import Derived.Laws.BytesArg
import Derived.Laws.MakeOwn
import Derived.Laws.OwnMore
import Derived.Deep.OwnRows
import Derived.Tactics
import Derived.Lib.ConvBytes
import Derived.Laws.Slices
import Derived.WalkKit
import Derived.KernelRfl
import Derived.RowKit3
import Derived.Deep.LoopGhost
import Derived.Deep.QuietTactic
import Derived.BigQuiet
import Derived.WideLaws
import Derived.Deep.DeepCutAuto
import Derived.Deep.CutBlock
import Derived.Deep.RegionHeld3
import Derived.Laws.Rows
import Derived.Lib.AppendStr
import Derived.ArgAppend
import Derived.Laws.IdiomCopy
import Derived.OrdersHeld
import Derived.Laws.BitsLemmas
import Derived.RowKit
import Derived.ChangeKeysEq
import Derived.Test.YtnjdkhnepmmfgaaDoorCTab
import Derived.Test.YtnjdkhnepmmfgaaDoorCFour
import Derived.Test.YtnjdkhnepmmfgaaDoorCQPut
import Derived.Test.YtnjdkhnepmmfgaaDoorCApart
import Derived.Test.YtnjdkhnepmmfgaaDoorCArr
import Derived.Test.YtnjdkhnepmmfgaaDoorCZeros
import Derived.Test.YtnjdkhnepmmfgaaDoorCFoot
import Derived.Test.YtnjdkhnepmmfgaaDoorCKept
import Derived.Test.YtnjdkhnepmmfgaaDoorCShare
import Derived.Test.YtnjdkhnepmmfgaaDoorCN
import Derived.Test.YtnjdkhnepmmfgaaDoorCFootNe
import Derived.Test.YtnjdkhnepmmfgaaDoorCAt
import Derived.Test.YtnjdkhnepmmfgaaDoorCEqStruct
import Derived.Test.YtnjdkhnepmmfgaaDoorCRepsOne
import Derived.Test.YtnjdkhnepmmfgaaDoorCInv
import Derived.Test.YtnjdkhnepmmfgaaDoorCInvWords
import Derived.Test.YtnjdkhnepmmfgaaDoorCGuard
import Derived.Test.YtnjdkhnepmmfgaaDoorCNEv
import Derived.Test.YtnjdkhnepmmfgaaDoorCMore
namespace Go.Proofs.YtnjdkhnepmmfgaaDoor.Td
set_option linter.unusedVariables false
set_option linter.unusedSimpArgs false
open Go.RowKit Go.Proofs.YtnjdkhnepmmfgaaDoorW.PrintWords Go.Proofs.YtnjdkhnepmmfgaaDoorW.PrintLast Go.Proofs.YtnjdkhnepmmfgaaDoorW.PrintMore Mp Kp Ky Fv Tdy Cl Mg
set_option maxHeartbeats 8000000 in
set_option maxRecDepth 100000 in
theorem tidy (T : Nat → ByteArray) (hT : ∀ n, (T n).size ≤ 20) (GI : World → Prop) (hGI : ∀ W W', GI W → Below W.heap.size W W' → GI W')
  (hItoa : ∀ W (n : Nat), GI W → n ≤ 1000000 → Calls Tryd.prog 115 #[.int .i64 (n : Int)] W fun e W' => e = .returned (.string (T n)) ∧ Below W.heap.size W W')
  (hinj : ∀ a b : List Nat, a ≠ [] → b ≠ [] → (∀ x ∈ a, x ≤ 1000000) → (∀ x ∈ b, x ≤ 1000000) → keyB T a = keyB T b → a = b)
  (tapes : Nat) (htp : tapes ≤ 3) (start : Nat) (accs : List Bool) (rows : List (List Nat)) (wd : Nat) (hwd1 : 0 < wd) (hwd2 : wd ≤ 30) (hcl : Closed wd rows accs) (hn : rows.length ≤ 100000) (hst : start < rows.length)
  (hwd : ∀ W, Calls Tryd.prog 94 #[.int .i64 tapes] W fun e W' => e = .returned (.int .i64 wd) ∧ Below W.heap.size W W')
  (dig : Nat → List Nat) (hdl : ∀ c, c < wd → (dig c).length = tapes) (hds : ∀ c, c < wd → ∀ d ∈ dig c, d < 3)
  (hdig : ∀ W c, c < wd → Calls Tryd.prog 62 #[.int .i64 tapes, .int .i64 (c : Int)] W fun e W' => ∃ v, e = .returned v ∧ Kd.R (Kd.int .i64) 3 W' W.heap.size (fun _ => True) v (ints (dig c)) ∧ Below W.heap.size W W')
  (w : World) (hG : GI w) (AA : Option Addr) (ca : Nat) (AN : Option Addr) (cn : Nat) (hA : Kd.C Kd.bool w AA accs.length accs) (hN : Kd.C (Kd.slice 3 (Kd.int .i64)) w AN rows.length (rows.map ints)) (hca : accs.length ≤ ca) (hcn : rows.length ≤ cn) (bs : List Bool) (rws : List (List Nat)) (ht : Tidied wd rows accs start (padOf dig) bs rws) :
  Calls Tryd.prog 84 #[.agg #[.int .i64 tapes, .int .i64 start, .slice AA accs.length ca, .slice AN rows.length cn]] w fun e w' => ∃ vA vN, e = .returned (.agg #[.int .i64 tapes, .int .i64 0, vA, vN]) ∧
   Kd.R Kd.bool 4 w' w.heap.size (fun _ => True) vA bs ∧ Kd.R (Kd.slice 3 (Kd.int .i64)) 87 w' w.heap.size (fun _ => True) vN (rws.map ints) ∧ Below w.heap.size w w' := by
 have hte := Aside0.mk ht.is
 clear ht
 go_enter Tryd.func84, Tryd.ntmps84
 go_wp2_with (first
  | (go_at_call 94; go_loud (with_reducible refine (hwd _).mono ?_); rintro e w1 ⟨rfl, hb1⟩; have bM1 := blk_below (blk_alloc (blk_new w (.cells #[.int .i64 (tapes : Int), .int .i64 (start : Int), .slice AA accs.length ca, .slice AN rows.length cn] 66)) (.cells #[.int .i64 0, .int .i64 0, .slice none 0 0, .slice none 0 0] 66)) hb1; have bR1 := blk_below (blk_at (w.alloc (.cells #[.int .i64 (tapes : Int), .int .i64 (start : Int), .slice AA accs.length ca, .slice AN rows.length cn] 66)) (.cells #[.int .i64 0, .int .i64 0, .slice none 0 0, .slice none 0 0] 66) (w.heap.size + 1) (by simp)) hb1; have hB1 := below_step (below_alloc (below_alloc (Below.refl _ _) _) _) hb1)
  | ((with_reducible refine gate_dst (N := 12) rfl ?_); go_loud (refine Kd.R_make (Kd.int .i64) (w0 := w) w.heap.size 3 rfl (N := 12) rfl 87 _ _ rfl (wd : Int) rfl rfl Tryd.underlying87 (.int .i64 0) 8 GwI.info_int rfl (by decide) (by decide) (0 : Int) (ok := fun _ => True) (okp := fun _ => False) rfl (fun _ h => h.elim) trivial (by omega) (by simp; omega) hB1 (Below.size hB1) ?_; intro v2 w2 hR2 hb2 hg2 hn2; simp only [Int.toNat_natCast] at hR2; obtain ⟨gr, cr, hv2, hgr, hgl, _⟩ := Kd.R_form hR2 (by simp; omega); subst hv2; rw [List.length_replicate] at hR2; have M2 : M w tapes start AA accs.length ca AN rows.length cn w2.heap.size (.slice (some ⟨gr, 0, none⟩) wd cr) (List.replicate wd 0) none (w2.alloc (.cells #[.slice (some ⟨gr, 0, none⟩) wd cr] 87)) := ⟨blk_alloc ((Keep.grown hg2).obj bM1 (by simp)) _, blk_alloc ((Keep.grown hg2).obj bR1 (by simp)) _, blk_new _ _, (by rw [ints_replicate]; exact Kd.R_mono (Kd.R_below hR2 (below_alloc (Below.refl _ _) _)) (fun _ _ => ⟨trivial, by simp⟩)), below_alloc hb2 _⟩; clear bM1 bR1 hR2 hn2 hg2 hb2 hB1)))
 have hws : Aside0 (w.heap.size ≤ w2.heap.size) := ⟨by have := M2.lt; have := M2.bel.size; omega⟩
 go_loopg [15] wd (fun kq v15 wr => ∃ (c : Nat), v15 = .int .i64 (c : Int) ∧ Aside0 (kq = wd - c) ∧ c ≤ wd ∧ Aside0 (M w tapes start AA accs.length ca AN rows.length cn w2.heap.size (.slice (some ⟨gr, 0, none⟩) wd cr) (padsTo dig wd c) none wr))
 case atStart => exact ⟨0, rfl, ⟨by simp⟩, Nat.zero_le _, ⟨by simpa [padsTo] using M2⟩⟩
 case round =>
  clear M2
  obtain ⟨wo, rfl⟩ : ∃ wo : World, wo = wr := ⟨_, rfl⟩
  obtain ⟨c, rfl, hkq, hcw, hM⟩ := hrel
  replace hM := hM.out
  by_cases hlt : c < wd
  ·have c0 : wo.cell? ⟨w.heap.size, 0, none⟩ = some (.int .i64 (tapes : Int)) := (blk_cell hM.bM 0).trans rfl
   have hlt1 : ((c : Int) < (wd : Int)) = True := eq_true (by omega)
   go_wp2_with (go_at_call 62; go_loud (with_reducible refine (hdig _ c hlt).mono ?_); rintro e w3 ⟨v3, rfl, hR3, hb3⟩; obtain ⟨A3, c3, hv3⟩ := Kd.R_slice hR3; subst hv3; rw [ints_length, hdl c hlt] at hR3 ⊢; have h3 := hM.step hb3)
   obtain ⟨hbp, cells, hcp⟩ := row_blk hM.grp (by rw [ints_length, padsTo_at dig hlt, padsAt_length dig hlt]; omega)
   have hgl2 := blk_lt hcp
   have hR4 : Kd.R (Kd.int .i64) 3 w3 wo.heap.size (fun k => True ∧ some k ≠ some gr) (.slice A3 tapes c3) (ints (dig c)) := Kd.R_mono (Kd.R_bound hR3) (fun k hk => ⟨trivial, fun e => by cases e; have := hk.2.1; omega⟩)
   rw [padsTo_at dig hlt] at h3
   clear hR3 hcp cells c0 hgl2
   have hdc := Aside0.mk (hdl c hlt)
   have hdd := Aside0.mk (hds c hlt)
   go_loopg [23] tapes (fun kq v23 wq => ∃ (t p : Nat), v23 = .int .i64 (t : Int) ∧ Aside0 (kq = tapes - t) ∧ t ≤ tapes ∧ p < 8 ∧ Aside0 (padsF p t ((dig c).drop t) = padOf dig c) ∧ Aside0 (Kd.R (Kd.int .i64) 3 wq wo.heap.size (fun k => True ∧ some k ≠ some gr) (.slice A3 tapes c3) (ints (dig c))) ∧ Aside0 (M w tapes start AA accs.length ca AN rows.length cn w2.heap.size (.slice (some ⟨gr, 0, none⟩) wd cr) (padsAt dig wd c p) none wq))
   case atStart => exact ⟨0, 0, rfl, ⟨by simp⟩, Nat.zero_le _, by omega, ⟨rfl⟩, ⟨hR4⟩, ⟨h3⟩⟩
   case round =>
    clear h3 hR4 hb3
    obtain ⟨t, p, rfl, hkt, htt, hp8, HP, hD, hQ⟩ := hrel
    replace hD := hD.out
    replace hQ := hQ.out
    by_cases htl : t < tapes
    ·have hdc2 := hdc.out
     obtain ⟨ad, rfl, k1⟩ := num_at' hD (i := t) (by omega)
     have hdt := hdd.out _ (List.getElem_mem (show t < (dig c).length by omega))
     have HP2 := HP.out
     rw [List.drop_eq_getElem_cons (show t < (dig c).length by omega), padsF] at HP2
     have HP3 := Aside0.mk HP2
     clear HP2 HP
     generalize (dig c)[t]'(by omega) = d at *
     clear hdc2
     have hlt1 : ((t : Int) < (tapes : Int)) = True := eq_true (by omega)
     have h0t : (0 ≤ (t : Int)) = True := eq_true (by omega)
     have hdl2 : d < 3 := hdt
     by_cases hd2 : d = 2
     ·subst d
      have hpl : (padsAt dig wd c p).length = wd := padsAt_length dig hlt
      have k2 := num_at hQ.grp (i := c) (by omega)
      rw [padsAt_get dig (by omega)] at k2
      obtain ⟨hbp2, cells, hcp⟩ := row_blk hQ.grp (by rw [ints_length, hpl]; omega)
      have f2 : wr.frozen? ⟨gr, c, none⟩ = false := blk_frozen hcp c
      have cG : wr.cell? ⟨w2.heap.size, 0, none⟩ = some (.slice (some ⟨gr, 0, none⟩) wd cr) := (blk_cell hQ.bG 0).trans rfl
      have hcw1 : ((c : Int) < (wd : Int)) = True := eq_true (by omega)
      have h0c : (0 ≤ (c : Int)) = True := eq_true (by omega)
      clear hpl hcp cells hdt hdl2
      have htr : t = 0 ∨ t = 1 ∨ t = 2 := by omega
      go_wp2_with fail
      rcases htr with rfl | rfl | rfl
      ·have hor : bits .or .i64 (p : Int) 1 = ((p ||| 1 : Nat) : Int) ∧ p ||| 1 < 8 := or_fact 0 (by omega) p hp8
       have hor1 : bits .or .i64 (p : Int) (wrap64 1) = ((p ||| 1 : Nat) : Int) := by rw [show wrap64 1 = 1 from by kernel_rfl]; exact hor.1
       refine start_ (n := 9) (S := fun w' => w'.cell? ⟨w2.heap.size, 0, none⟩ = some (.slice (some ⟨gr, 0, none⟩) wd cr) ∧ w'.cell? ⟨gr, c, none⟩ = some (.int .i64 (p : Int))) (ds := [8]) (.replicate 9 false) (by kernel_rfl) rfl rfl (⟨cG, k2⟩) (fun hHeld => ?_)
       refine pure_ (i := 1) (N := some 31) (v := ?_) (a' := ?_) (zb 9 2) rfl rfl (by kernel_rfl) (fun _ _ _ h => h) (Or.inl ⟨by rfl, ?_⟩) ?_ ?_
       rotate_left
       ·intro w'
        go_simp
        with_reducible rfl
       rotate_left
       ·simp only [Act.put, Za, Zb, Zc, i64_w, i32_w]
        rfl
       refine pure_ (i := 4) (N := some 34) (v := ?_) (a' := ?_) (zb 9 18) rfl rfl (by kernel_rfl) (fun _ _ _ h => h) (Or.inl ⟨by rfl, ?_⟩) ?_ ?_
       rotate_left
       ·intro w'
        go_simp
        with_reducible rfl
       rotate_left
       ·simp only [Act.put, Za, Zb, Zc, i64_w, i32_w]
        rfl
       refine pure_ (i := 5) (N := some 35) (v := ?_) (a' := ?_) (zb 9 50) rfl rfl (by kernel_rfl) (fun _ _ _ h => h) (Or.inl ⟨by rfl, ?_⟩) ?_ ?_
       rotate_left
       ·intro w'
        go_simp
        with_reducible rfl
       rotate_left
       ·simp only [Act.put, Za, Zb, Zc, i64_w, i32_w]
        rfl
       refine take_ (i := 0) (N := some 30) (v := ?_) (a' := ?_) (zb 9 51) rfl rfl (by kernel_rfl) (fun _ _ _ h => h) (Or.inl ⟨by rfl, ?_⟩) hHeld ?_ ?_
       rotate_left
       ·rintro w' ⟨s1, s2⟩
        go_simp
        with_reducible rfl
       rotate_left
       ·simp only [Act.put, Za, Zb, Zc, i64_w, i32_w]
        rfl
       refine pure_ (i := 2) (N := some 32) (v := ?_) (a' := ?_) (zb 9 55) rfl rfl (by kernel_rfl) (fun _ _ _ h => h) (Or.inl ⟨by rfl, ?_⟩) ?_ ?_
       rotate_left
       ·intro w'
        go_simp
        with_reducible rfl
       rotate_left
       ·simp only [Act.put, Za, Zb, Zc, i64_w, i32_w]
        rfl
       refine take_ (i := 3) (N := some 33) (v := ?_) (a' := ?_) (zb 9 63) rfl rfl (by kernel_rfl) (fun _ _ _ h => h) (Or.inl ⟨by rfl, ?_⟩) hHeld ?_ ?_
       rotate_left
       ·rintro w' ⟨s1, s2⟩
        go_simp
        with_reducible rfl
       rotate_left
       ·simp only [Act.put, Za, Zb, Zc, i64_w, i32_w]
        rfl
       refine pure_ (i := 6) (N := some 36) (v := ?_) (a' := ?_) (zb 9 127) rfl rfl (by kernel_rfl) (fun _ _ _ h => h) (Or.inl ⟨by rfl, ?_⟩) ?_ ?_
       rotate_left
       ·intro w'
        go_simp
        with_reducible rfl
       rotate_left
       ·simp only [Act.put, Za, Zb, Zc, i64_w, i32_w]
        rfl
       refine pure_ (i := 7) (N := some 37) (v := ?_) (a' := ?_) (zb 9 255) rfl rfl (by kernel_rfl) (fun _ _ _ h => h) (Or.inl ⟨by rfl, ?_⟩) ?_ ?_
       rotate_left
       ·intro w'
        go_simp
        with_reducible rfl
       rotate_left
       ·simp only [Act.put, Za, Zb, Zc, i64_w, i32_w]
        rfl
       have hq1 := hHeld.2
       have hf1 : wr.drew.frozen? ⟨gr, c, none⟩ = false := f2
       refine last_ (i := 8) (N := none) (zb 9 511) rfl rfl (by kernel_rfl) (by decide) (fun K hK => ?_)
       refine skip_ (w1 := wr.drew.setCell ⟨gr, c, none⟩ (.int .i64 ((p ||| 1 : Nat) : Int))) (by rfl) rfl (by first | (go_simp; done) | (go_simp; rfl)) ?_
       refine hK.out _ _ ?_
       clear hK K
       refine done_ (by kernel_rfl) ?_
       have hM5 := (hQ.step (below_drew1 (Below.refl _ _))).put hbp2 c (p ||| 1)
       rw [padsAt_set] at hM5
       have hD5 := R_apart (Kd.R_below hD (below_drew1 (Below.refl _ _))) (Keep.set wr.drew ⟨gr, c, none⟩ (.int .i64 ((p ||| 1 : Nat) : Int)))
       go_wp2_with fail
       go_roundg (tapes - (0 + 1))
       case measure => have := hkt.out; omega
       case rel => exact ⟨1, p ||| 1, (by go_num), ⟨by simp⟩, by omega, hor.2, ⟨by have := HP3.out; rw [if_pos trivial] at this; exact this⟩, ⟨hD5⟩, ⟨hM5⟩⟩
      ·have hor : bits .or .i64 (p : Int) 2 = ((p ||| 2 : Nat) : Int) ∧ p ||| 2 < 8 := or_fact 1 (by omega) p hp8
       have hor1 : bits .or .i64 (p : Int) (wrap64 2) = ((p ||| 2 : Nat) : Int) := by rw [show wrap64 2 = 2 from by kernel_rfl]; exact hor.1
       refine start_ (n := 9) (S := fun w' => w'.cell? ⟨w2.heap.size, 0, none⟩ = some (.slice (some ⟨gr, 0, none⟩) wd cr) ∧ w'.cell? ⟨gr, c, none⟩ = some (.int .i64 (p : Int))) (ds := [8]) (.replicate 9 false) (by kernel_rfl) rfl rfl (⟨cG, k2⟩) (fun hHeld => ?_)
       refine pure_ (i := 1) (N := some 31) (v := ?_) (a' := ?_) (zb 9 2) rfl rfl (by kernel_rfl) (fun _ _ _ h => h) (Or.inl ⟨by rfl, ?_⟩) ?_ ?_
       rotate_left
       ·intro w'
        go_simp
        with_reducible rfl
       rotate_left
       ·simp only [Act.put, Za, Zb, Zc, i64_w, i32_w]
        rfl
       refine pure_ (i := 4) (N := some 34) (v := ?_) (a' := ?_) (zb 9 18) rfl rfl (by kernel_rfl) (fun _ _ _ h => h) (Or.inl ⟨by rfl, ?_⟩) ?_ ?_
       rotate_left
       ·intro w'
        go_simp
        with_reducible rfl
       rotate_left
       ·simp only [Act.put, Za, Zb, Zc, i64_w, i32_w]
        rfl
       refine pure_ (i := 5) (N := some 35) (v := ?_) (a' := ?_) (zb 9 50) rfl rfl (by kernel_rfl) (fun _ _ _ h => h) (Or.inl ⟨by rfl, ?_⟩) ?_ ?_
       rotate_left
       ·intro w'
        go_simp
        with_reducible rfl
       rotate_left
       ·simp only [Act.put, Za, Zb, Zc, i64_w, i32_w]
        rfl
       refine take_ (i := 0) (N := some 30) (v := ?_) (a' := ?_) (zb 9 51) rfl rfl (by kernel_rfl) (fun _ _ _ h => h) (Or.inl ⟨by rfl, ?_⟩) hHeld ?_ ?_
       rotate_left
       ·rintro w' ⟨s1, s2⟩
        go_simp
        with_reducible rfl
       rotate_left
       ·simp only [Act.put, Za, Zb, Zc, i64_w, i32_w]
        rfl
       refine pure_ (i := 2) (N := some 32) (v := ?_) (a' := ?_) (zb 9 55) rfl rfl (by kernel_rfl) (fun _ _ _ h => h) (Or.inl ⟨by rfl, ?_⟩) ?_ ?_
       rotate_left
       ·intro w'
        go_simp
        with_reducible rfl
       rotate_left
       ·simp only [Act.put, Za, Zb, Zc, i64_w, i32_w]
        rfl
       refine take_ (i := 3) (N := some 33) (v := ?_) (a' := ?_) (zb 9 63) rfl rfl (by kernel_rfl) (fun _ _ _ h => h) (Or.inl ⟨by rfl, ?_⟩) hHeld ?_ ?_
       rotate_left
       ·rintro w' ⟨s1, s2⟩
        go_simp
        with_reducible rfl
       rotate_left
       ·simp only [Act.put, Za, Zb, Zc, i64_w, i32_w]
        rfl
       refine pure_ (i := 6) (N := some 36) (v := ?_) (a' := ?_) (zb 9 127) rfl rfl (by kernel_rfl) (fun _ _ _ h => h) (Or.inl ⟨by rfl, ?_⟩) ?_ ?_
       rotate_left
       ·intro w'
        go_simp
        with_reducible rfl
       rotate_left
       ·simp only [Act.put, Za, Zb, Zc, i64_w, i32_w]
        rfl
       refine pure_ (i := 7) (N := some 37) (v := ?_) (a' := ?_) (zb 9 255) rfl rfl (by kernel_rfl) (fun _ _ _ h => h) (Or.inl ⟨by rfl, ?_⟩) ?_ ?_
       rotate_left
       ·intro w'
        go_simp
        with_reducible rfl
       rotate_left
       ·simp only [Act.put, Za, Zb, Zc, i64_w, i32_w]
        rfl
       have hq1 := hHeld.2
       have hf1 : wr.drew.frozen? ⟨gr, c, none⟩ = false := f2
       refine last_ (i := 8) (N := none) (zb 9 511) rfl rfl (by kernel_rfl) (by decide) (fun K hK => ?_)
       refine skip_ (w1 := wr.drew.setCell ⟨gr, c, none⟩ (.int .i64 ((p ||| 2 : Nat) : Int))) (by rfl) rfl (by first | (go_simp; done) | (go_simp; rfl)) ?_
       refine hK.out _ _ ?_
       clear hK K
       refine done_ (by kernel_rfl) ?_
       have hM5 := (hQ.step (below_drew1 (Below.refl _ _))).put hbp2 c (p ||| 2)
       rw [padsAt_set] at hM5
       have hD5 := R_apart (Kd.R_below hD (below_drew1 (Below.refl _ _))) (Keep.set wr.drew ⟨gr, c, none⟩ (.int .i64 ((p ||| 2 : Nat) : Int)))
       go_wp2_with fail
       go_roundg (tapes - (1 + 1))
       case measure => have := hkt.out; omega
       case rel => exact ⟨2, p ||| 2, (by go_num), ⟨by simp⟩, by omega, hor.2, ⟨by have := HP3.out; rw [if_pos trivial] at this; exact this⟩, ⟨hD5⟩, ⟨hM5⟩⟩
      ·have hor : bits .or .i64 (p : Int) 4 = ((p ||| 4 : Nat) : Int) ∧ p ||| 4 < 8 := or_fact 2 (by omega) p hp8
       have hor1 : bits .or .i64 (p : Int) (wrap64 4) = ((p ||| 4 : Nat) : Int) := by rw [show wrap64 4 = 4 from by kernel_rfl]; exact hor.1
       refine start_ (n := 9) (S := fun w' => w'.cell? ⟨w2.heap.size, 0, none⟩ = some (.slice (some ⟨gr, 0, none⟩) wd cr) ∧ w'.cell? ⟨gr, c, none⟩ = some (.int .i64 (p : Int))) (ds := [8]) (.replicate 9 false) (by kernel_rfl) rfl rfl (⟨cG, k2⟩) (fun hHeld => ?_)
       refine pure_ (i := 1) (N := some 31) (v := ?_) (a' := ?_) (zb 9 2) rfl rfl (by kernel_rfl) (fun _ _ _ h => h) (Or.inl ⟨by rfl, ?_⟩) ?_ ?_
       rotate_left
       ·intro w'
        go_simp
        with_reducible rfl
       rotate_left
       ·simp only [Act.put, Za, Zb, Zc, i64_w, i32_w]
        rfl
       refine pure_ (i := 4) (N := some 34) (v := ?_) (a' := ?_) (zb 9 18) rfl rfl (by kernel_rfl) (fun _ _ _ h => h) (Or.inl ⟨by rfl, ?_⟩) ?_ ?_
       rotate_left
       ·intro w'
        go_simp
        with_reducible rfl
       rotate_left
       ·simp only [Act.put, Za, Zb, Zc, i64_w, i32_w]
        rfl
       refine pure_ (i := 5) (N := some 35) (v := ?_) (a' := ?_) (zb 9 50) rfl rfl (by kernel_rfl) (fun _ _ _ h => h) (Or.inl ⟨by rfl, ?_⟩) ?_ ?_
       rotate_left
       ·intro w'
        go_simp
        with_reducible rfl
       rotate_left
       ·simp only [Act.put, Za, Zb, Zc, i64_w, i32_w]
        rfl
       refine take_ (i := 0) (N := some 30) (v := ?_) (a' := ?_) (zb 9 51) rfl rfl (by kernel_rfl) (fun _ _ _ h => h) (Or.inl ⟨by rfl, ?_⟩) hHeld ?_ ?_
       rotate_left
       ·rintro w' ⟨s1, s2⟩
        go_simp
        with_reducible rfl
       rotate_left
       ·simp only [Act.put, Za, Zb, Zc, i64_w, i32_w]
        rfl
       refine pure_ (i := 2) (N := some 32) (v := ?_) (a' := ?_) (zb 9 55) rfl rfl (by kernel_rfl) (fun _ _ _ h => h) (Or.inl ⟨by rfl, ?_⟩) ?_ ?_
       rotate_left
       ·intro w'
        go_simp
        with_reducible rfl
       rotate_left
       ·simp only [Act.put, Za, Zb, Zc, i64_w, i32_w]
        rfl
       refine take_ (i := 3) (N := some 33) (v := ?_) (a' := ?_) (zb 9 63) rfl rfl (by kernel_rfl) (fun _ _ _ h => h) (Or.inl ⟨by rfl, ?_⟩) hHeld ?_ ?_
       rotate_left
       ·rintro w' ⟨s1, s2⟩
        go_simp
        with_reducible rfl
       rotate_left
       ·simp only [Act.put, Za, Zb, Zc, i64_w, i32_w]
        rfl
       refine pure_ (i := 6) (N := some 36) (v := ?_) (a' := ?_) (zb 9 127) rfl rfl (by kernel_rfl) (fun _ _ _ h => h) (Or.inl ⟨by rfl, ?_⟩) ?_ ?_
       rotate_left
       ·intro w'
        go_simp
        with_reducible rfl
       rotate_left
       ·simp only [Act.put, Za, Zb, Zc, i64_w, i32_w]
        rfl
       refine pure_ (i := 7) (N := some 37) (v := ?_) (a' := ?_) (zb 9 255) rfl rfl (by kernel_rfl) (fun _ _ _ h => h) (Or.inl ⟨by rfl, ?_⟩) ?_ ?_
       rotate_left
       ·intro w'
        go_simp
        with_reducible rfl
       rotate_left
       ·simp only [Act.put, Za, Zb, Zc, i64_w, i32_w]
        rfl
       have hq1 := hHeld.2
       have hf1 : wr.drew.frozen? ⟨gr, c, none⟩ = false := f2
       refine last_ (i := 8) (N := none) (zb 9 511) rfl rfl (by kernel_rfl) (by decide) (fun K hK => ?_)
       refine skip_ (w1 := wr.drew.setCell ⟨gr, c, none⟩ (.int .i64 ((p ||| 4 : Nat) : Int))) (by rfl) rfl (by first | (go_simp; done) | (go_simp; rfl)) ?_
       refine hK.out _ _ ?_
       clear hK K
       refine done_ (by kernel_rfl) ?_
       have hM5 := (hQ.step (below_drew1 (Below.refl _ _))).put hbp2 c (p ||| 4)
       rw [padsAt_set] at hM5
       have hD5 := R_apart (Kd.R_below hD (below_drew1 (Below.refl _ _))) (Keep.set wr.drew ⟨gr, c, none⟩ (.int .i64 ((p ||| 4 : Nat) : Int)))
       go_wp2_with fail
       go_roundg (tapes - (2 + 1))
       case measure => have := hkt.out; omega
       case rel => exact ⟨3, p ||| 4, (by go_num), ⟨by simp⟩, by omega, hor.2, ⟨by have := HP3.out; rw [if_pos trivial] at this; exact this⟩, ⟨hD5⟩, ⟨hM5⟩⟩
     ·have he : ((d : Int) == 2) = false := beq_eq_false_iff_ne.2 (by omega)
      go_wp2_with fail
      go_roundg (tapes - (t + 1))
      case measure => have := hkt.out; omega
      case rel => exact ⟨t + 1, p, (by go_num), ⟨by simp⟩, by omega, hp8, ⟨by rw [← HP3.out, if_neg hd2]⟩, ⟨hD⟩, ⟨hQ⟩⟩
    ·have htt2 : t = tapes := by omega
     subst htt2
     have hlt1 : ((t : Int) < (t : Int)) = False := eq_false (by omega)
     have HP2 := HP.out
     rw [List.drop_of_length_le (by have := hdc.out; omega), padsF] at HP2
     subst HP2
     rw [padsAt_to] at hQ
     go_wp2_with fail
     go_roundg (wd - (c + 1))
     case measure => have := hkq.out; omega
     case rel => exact ⟨c + 1, (by go_num), ⟨by simp⟩, by omega, ⟨hQ⟩⟩
  ·have hcc : c = wd := by omega
   subst hcc
   have hlt1 : ((c : Int) < (c : Int)) = False := eq_false (by omega)
   have c0 : wo.cell? ⟨w.heap.size, 0, none⟩ = some (.int .i64 (tapes : Int)) := (blk_cell hM.bM 0).trans rfl
   have c1 : wo.cell? ⟨w.heap.size, 1, none⟩ = some (.int .i64 (start : Int)) := (blk_cell hM.bM 1).trans rfl
   have hp0 : padsTo dig c c = (List.range c).map (padOf dig) := by simp [padsTo]
   rw [hp0] at hM
   clear hp0 hkq
   have hmach : Mach wo w.heap.size tapes start accs (rows.map ints) := ⟨AA, ca, AN, cn, by rw [List.length_map]; exact hM.bM, Kd.C_below hA hM.bel, by rw [List.length_map]; exact Kd.C_below hN hM.bel, hca, by rw [List.length_map]; exact hcn⟩
   have hnum : Nums wo w2.heap.size (ints ((List.range c).map (padOf dig))) := by
    obtain ⟨e, h1, h2⟩ := Kd.R_reads' hM.grp
    exact ⟨_, cr, by rw [← e]; exact hM.bG, h2, by rw [← e]; exact h1⟩
   have hpad : ∀ x, x < c → padOf dig x < 8 := fun x hx => padsF_lt _ _ _ (by omega) (by have := hdl x hx; omega)
   obtain ⟨f, lp, rp, f1, g, f2, l, hbf, hcs, hby, hbs⟩ := hte.out
   have hgr := grownP tapes start accs rows c hwd2 hcl hn hst hwd (padOf dig) hpad w.heap.size w2.heap.size wo hmach hnum f lp rp hbf
   have hlen := places_len (n := rows.length) hbf (.inr ⟨start, 0, hst, by omega, rfl⟩) (fun p x hp hx => met8_next hcl hpad hp hx)
   have hd := bfs_done f 0 [((start : Int), (0 : Int))] [] lp rp hbf (Nat.zero_le _) rfl (List.pairwise_singleton _ _) (fun r hr => by cases hr) (fun i hi => by cases hi)
   have hcl3 := Aside0.mk (done_closed (accP accs) hd.1)
   obtain ⟨mm, hmm⟩ := hd.2
   have hrl : rp.length = lp.length := hd.1.len
   have hr0 : 0 < rp.length := by rw [hrl, hmm, List.length_append, List.length_singleton]; omega
   have hr1 : rp.length ≤ 1000000 := by omega
   have hla : (lp.map (accP accs)).length = rp.length := by rw [List.length_map, hrl]
   have hcs2 := Aside0.mk hcs
   have hby2 := Aside0.mk hby
   have hla2 := Aside0.mk hla
   have hbs2 := Aside0.mk hbs
   have hbR := hM.bR
   have hB := hM.bel
   clear hmm hd hbf hlen hmach hnum hcs hby hrl hbs hM hla
   generalize lp.map (accP accs) = ac at *
   go_wp2_with (first
    | (go_at_call 106; go_loud (refine hgr.mono ?_; rintro e w6 ⟨vA, vN, rfl, r1, r2, hb6⟩; clear hgr; have hla3 := hla2.out; have hC1 := Kd.R_reads r1; have hC2 := Kd.R_reads r2; obtain ⟨A1, c1, rfl, hc1, hC1⟩ := hC1; obtain ⟨A2, c2, rfl, hc2, hC2⟩ := hC2; rw [List.length_map] at r2 hC2 hc2 ⊢; clear hla3; have hB7 := below_alloc (below_step hB hb6) (.cells #[.int .i64 (tapes : Int), .int .i64 0, .slice A1 ac.length c1, .slice A2 rp.length c2] 66); have bR7 := blk_alloc (blk_below hbR hb6) (.cells #[.int .i64 (tapes : Int), .int .i64 0, .slice A1 ac.length c1, .slice A2 rp.length c2] 66)))
    | (go_at_call 109; go_loud (refine Calls.mono (merged T hT GI hGI hItoa hinj tapes 0 ac rp c hwd2 hcl3.out hr1 hr0 hwd _ (hGI _ _ hG hB7) A1 c1 A2 c2 (Kd.C_below hC1 (below_alloc (Below.refl _ _) _)) (Kd.C_below hC2 (below_alloc (Below.refl _ _) _)) hc1 hc2 f1 g hcs2.out f2 l rws hby2.out) ?_; rintro e w8 ⟨vA, vN, rfl, q1, q2, hb8⟩; obtain ⟨A3, c3, rfl⟩ := Kd.R_slice q1; obtain ⟨A4, c4, rfl⟩ := Kd.R_slice q2; rw [List.length_map] at q1 q2 ⊢; rw [List.length_map]; have b0 := blk_below bR7 hb8; have e0 : w8.cell? ⟨w.heap.size + 1, 0, none⟩ = some (.int .i64 0) := (blk_cell b0 0).trans rfl; have e1 : w8.cell? ⟨w.heap.size + 1, 1, none⟩ = some (.int .i64 0) := (blk_cell b0 1).trans rfl; have e2 : w8.cell? ⟨w.heap.size + 1, 2, none⟩ = some (.slice none 0 0) := (blk_cell b0 2).trans rfl; have e3 : w8.cell? ⟨w.heap.size + 1, 3, none⟩ = some (.slice none 0 0) := (blk_cell b0 3).trans rfl; have g0 : w8.frozen? ⟨w.heap.size + 1, 0, none⟩ = false := blk_frozen b0 0; have g1 : w8.frozen? ⟨w.heap.size + 1, 1, none⟩ = false := blk_frozen b0 1; have g2 : w8.frozen? ⟨w.heap.size + 1, 2, none⟩ = false := blk_frozen b0 2; have g3 : w8.frozen? ⟨w.heap.size + 1, 3, none⟩ = false := blk_frozen b0 3)))
   have hB8 := below_step hB7 hb8
   have q3 := Kd.R_lower q1 (Below.size hB7)
   have q4 := Kd.R_lower q2 (Below.size hB7)
   have b1 := blk_put b0 0 (.int .i64 (tapes : Int)) rfl
   have b2 := blk_put b1 1 (.int .i64 0) rfl
   have b3 := blk_put b2 2 (.slice A3 l.length c3) rfl
   have b4 := blk_put b3 3 (.slice A4 rws.length c4) rfl
   refine bodyPost_ret (results_cell_row rfl _ _ (w.heap.size + 1) 66 #[.int .i64 tapes, .int .i64 0, .slice A3 l.length c3, .slice A4 rws.length c4] (0, 0) _ rfl b4 Tryd.underlying66 rfl (by kernel_rfl)) rfl ⟨_, _, rfl, ?_, ?_, ?_⟩
   ·rw [hbs2.out]
    exact Kd.R_set (Kd.R_set (Kd.R_set (Kd.R_set q3 b0 (by decide) 0 _) b1 (by decide) 1 _) b2 (by decide) 2 _) b3 (by decide) 3 _
   ·exact Kd.R_set (Kd.R_set (Kd.R_set (Kd.R_set q4 b0 (by decide) 0 _) b1 (by decide) 1 _) b2 (by decide) 2 _) b3 (by decide) 3 _
   ·exact (((hB8.setCell (by simp) _).setCell (by simp) _).setCell (by simp) _).setCell (by simp) _
end Go.Proofs.YtnjdkhnepmmfgaaDoor.Td
namespace Go.Proofs.YtnjdkhnepmmfgaaDoor.Mo
set_option linter.unusedVariables false
set_option linter.unusedSimpArgs false
open Go.RowKit Go.Proofs.YtnjdkhnepmmfgaaDoorW.PrintWords Go.Proofs.YtnjdkhnepmmfgaaDoorW.PrintLast Go.Proofs.YtnjdkhnepmmfgaaDoorW.PrintMore Kp Cl Mg
theorem clone (W : World) (A : Option Addr) (c : Nat) (xs : List Bool) (h0 : 0 < xs.length) (hn : xs.length ≤ 1000000) (hC : Kd.C Kd.bool W A xs.length xs) :
  Calls Tryd.prog 101 #[.slice A xs.length c] W fun e W' => ∃ v, e = .returned v ∧ Kd.R Kd.bool 4 W' W.heap.size (fun _ => True) v xs ∧ Below W.heap.size W W' := by
 obtain ⟨⟨b, off, sp⟩, rfl, k0⟩ := at_mark hC 0 h0
 have hsp : sp = none := by
  unfold World.cell? Addr.add at k0
  rw [if_pos rfl] at k0
  split at k0
  ·cases sp with
   | none => rfl
   | some s => simp at k0
  ·cases k0
 subst hsp
 have hc : ∀ j u, (xs.map Value.bool)[j]? = some u → W.cell? ⟨b, off + j, none⟩ = some u := by
  intro j u hj
  obtain ⟨y, hy, rfl⟩ := List.getElem?_map .. ▸ hj |> Option.map_eq_some_iff.1
  obtain ⟨hlt, rfl⟩ := List.getElem?_eq_some_iff.1 hy
  obtain ⟨ad, e, k⟩ := at_mark hC j hlt
  cases e
  have ea : (⟨b, off, none⟩ : Addr).add j = ⟨b, off + j, none⟩ := by
   by_cases h0 : j = 0
   ·subst h0; rfl
   ·simp [Addr.add, h0]
  rw [ea] at k
  exact k
 have hi := GwI.info_bool
 obtain ⟨i0, h1, h2⟩ := Option.map_eq_some_iff.1 hi
 simp only [Prod.mk.injEq] at h2
 have h := Tryd.cloneB i0 (.bool false) 1 1 h1 h2.1 h2.2.1 h2.2.2 rfl (by decide) Tryd.sizeOf4 b off xs.length c (xs.map Value.bool) W (by simp) (by unfold maxLen; omega) (by omega) hc (by intro u hu; obtain ⟨y, _, rfl⟩ := List.mem_map.1 hu; rfl)
 refine Calls.mono h ?_
 rintro e W' ⟨v, rfl, ho, hne, hb⟩
 exact ⟨v, rfl, Kd.R_of_own ho (fun _ _ => trivial), hb⟩
/-- The relation that is read, and the result. -/
structure Pr (w0 : World) (a0 a1 : Int) (AA : Option Addr) (na ca : Nat) (AN : Option Addr) (nn cn : Nat) (W : World) : Prop where
 bP : W.heap[w0.heap.size]? = some (.cells #[.int .i64 a0, .int .i64 a1, .slice AA na ca, .slice AN nn cn] 27 (0, 0))
 bR : W.heap[w0.heap.size + 1]? = some (.cells #[.int .i64 0, .int .i64 0, .slice none 0 0, .slice none 0 0] 66 (0, 0))
 bel : Below w0.heap.size w0 W
section
variable {w0 : World} {a0 a1 : Int} {AA : Option Addr} {na ca : Nat} {AN : Option Addr} {nn cn : Nat} {W W' : World}
theorem Pr.step (h : Pr w0 a0 a1 AA na ca AN nn cn W) (hb : Below W.heap.size W W') : Pr w0 a0 a1 AA na ca AN nn cn W' := ⟨blk_below h.bP hb, blk_below h.bR hb, below_step h.bel hb⟩
theorem Pr.lt (h : Pr w0 a0 a1 AA na ca AN nn cn W) : w0.heap.size + 1 < W.heap.size := blk_lt h.bR
end
/-- .. and the machine that is made; x: the row that is made. -/
structure Mk (w0 : World) (a0 a1 : Int) (AA : Option Addr) (na ca : Nat) (AN : Option Addr) (nn cn : Nat) (gl : Nat) (vA : Value) (bs : List Bool) (vN : Value) (rws : List (List Int)) (x : Option Nat) (W : World) : Prop where
 p : Pr w0 a0 a1 AA na ca AN nn cn W
 bV : W.heap[gl]? = some (.cells #[.int .i64 a0, .int .i64 a1, vA, vN] 66 (0, 0))
 acc : Kd.R Kd.bool 4 W w0.heap.size (fun _ => True) vA bs
 nxt : Kd.R (Kd.slice 3 (Kd.int .i64)) 87 W w0.heap.size (fun k => True ∧ some k ≠ x) vN rws
section
variable {w0 : World} {a0 a1 : Int} {AA : Option Addr} {na ca : Nat} {AN : Option Addr} {nn cn gl : Nat} {vA vN : Value} {bs : List Bool} {rws : List (List Int)} {x : Option Nat} {W W' : World}
/-- A number is put behind the row. -/
theorem Mk.more {vr v1 : Value} {r : List Int} {b : Nat} (h : Mk w0 a0 a1 AA na ca AN nn cn gl vA bs vN rws vr.ownBlock W) (hr : Kd.R (Kd.int .i64) 3 W b (fun _ => True) vr r) (hg : W.grownBy W' vr.ownBlock) (hat : v1.ownBlock = vr.ownBlock ∨ ∃ b, v1.ownBlock = some b ∧ W.heap.size ≤ b) (hb : Below w0.heap.size w0 W') : Mk w0 a0 a1 AA na ca AN nn cn gl vA bs vN rws v1.ownBlock W' := by
 have hk := Keep.grown hg
 have o : ∀ E : List Nat, (∀ q ∈ E, q ≠ 3) → Off W vr.ownBlock E := fun E hE => Off.row hr hE
 exact ⟨⟨hk.obj h.p.bP (off_ne h.p.bP (o _ (by decide))), hk.obj h.p.bR (off_ne h.p.bR (o _ (by decide))), hb⟩, hk.obj h.bV (off_ne h.bV (o _ (by decide))), R_off h.acc hk (o _ (by decide)), Kd.R_after h.nxt hg hat⟩
/-- The row is put behind the others. -/
theorem Mk.push {v1 : Value} {rws' : List (List Int)} (h : Mk w0 a0 a1 AA na ca AN nn cn gl vA bs vN rws x W) (hg : W.grownBy W' vN.ownBlock) (hR : Kd.R (Kd.slice 3 (Kd.int .i64)) 87 W' w0.heap.size (fun _ => True) v1 rws') (hb : Below w0.heap.size w0 W') (hgl : w0.heap.size + 1 < gl) :
  W'.heap[gl]? = some (.cells #[.int .i64 a0, .int .i64 a1, vA, vN] 66 (0, 0)) ∧ Mk w0 a0 a1 AA na ca AN nn cn gl vA bs v1 rws' none (W'.setCell ⟨gl, 3, none⟩ v1) := by
 have hk := Keep.grown hg
 have o : ∀ E : List Nat, (∀ q ∈ E, q ≠ 87) → Off W vN.ownBlock E := fun E hE => Off.row h.nxt hE
 have bV := hk.obj h.bV (off_ne h.bV (o _ (by decide)))
 refine ⟨bV, ?_⟩
 have hs := Keep.set W' ⟨gl, 3, none⟩ v1
 have p : ∀ E : List Nat, (∀ q ∈ E, q ≠ 66) → Off W' (some gl) E := fun E hE => Off.cells bV hE
 have n0 : some w0.heap.size ≠ some gl := fun e => by injection e; omega
 have n1 : some (w0.heap.size + 1) ≠ some gl := fun e => by injection e; omega
 exact ⟨⟨hs.obj (hk.obj h.p.bP (off_ne h.p.bP (o _ (by decide)))) n0, hs.obj (hk.obj h.p.bR (off_ne h.p.bR (o _ (by decide)))) n1, hb.setCell (p := ⟨gl, 3, none⟩) (by simp only; omega) v1⟩, blk_put bV 3 v1 rfl, R_off (R_off h.acc hk (o _ (by decide))) hs (p _ (by decide)), Kd.R_mono (R_off hR hs (p _ (by decide))) (fun _ _ => ⟨trivial, by simp⟩)⟩
end
set_option maxHeartbeats 8000000 in
set_option maxRecDepth 100000 in
theorem machineOf (a0 a1 : Int) (accs : List Bool) (rows : List (List Int)) (h0 : 0 < accs.length) (hn : accs.length ≤ 1000000) (hn2 : rows.length ≤ 1000000) (hn3 : ∀ r ∈ rows, r.length ≤ 1000000) (w : World) (AA : Option Addr) (ca : Nat) (AN : Option Addr) (cn : Nat) (hA : Kd.C Kd.bool w AA accs.length accs) (hca : accs.length ≤ ca) (hN : Kd.C (Kd.slice 2 (Kd.int .i64)) w AN rows.length rows) (hcn : rows.length ≤ cn) :
  Calls Tryd.prog 83 #[.agg #[.int .i64 a0, .int .i64 a1, .slice AA accs.length ca, .slice AN rows.length cn]] w fun e w' => ∃ vA vN, e = .returned (.agg #[.int .i64 a0, .int .i64 a1, vA, vN]) ∧
   Kd.R Kd.bool 4 w' w.heap.size (fun _ => True) vA accs ∧ Kd.R (Kd.slice 3 (Kd.int .i64)) 87 w' w.heap.size (fun _ => True) vN rows ∧ Below w.heap.size w w' := by
 go_enter Tryd.func83, Tryd.ntmps83
 go_wp2
 have hP : Pr w a0 a1 AA accs.length ca AN rows.length cn ((w.alloc (.cells #[.int .i64 a0, .int .i64 a1, .slice AA accs.length ca, .slice AN rows.length cn] 27)).alloc (.cells #[.int .i64 0, .int .i64 0, .slice none 0 0, .slice none 0 0] 66)) :=
  ⟨blk_alloc (blk_new _ _) _, blk_at _ _ _ (by simp), below_alloc (below_alloc (Below.refl _ _) _) _⟩
 have hPd := hP.step (below_drew1 (Below.refl _ _))
 clear hP
 generalize hwd : (w.alloc (.cells #[.int .i64 a0, .int .i64 a1, .slice AA accs.length ca, .slice AN rows.length cn] 27)).alloc (.cells #[.int .i64 0, .int .i64 0, .slice none 0 0, .slice none 0 0] 66) = wd at *
 have hSS : ∀ W', Pr w a0 a1 AA accs.length ca AN rows.length cn W' → (fun w' => w'.cell? ⟨w.heap.size, 0, none⟩ = some (.int .i64 a0) ∧ w'.cell? ⟨w.heap.size, 1, none⟩ = some (.int .i64 a1) ∧ w'.cell? ⟨w.heap.size, 2, none⟩ = some (.slice AA accs.length ca)) W' := fun W' h => ⟨(blk_cell h.bP 0).trans rfl, (blk_cell h.bP 1).trans rfl, (blk_cell h.bP 2).trans rfl⟩
 refine start_ (n := 10) (S := fun w' => w'.cell? ⟨w.heap.size, 0, none⟩ = some (.int .i64 a0) ∧ w'.cell? ⟨w.heap.size, 1, none⟩ = some (.int .i64 a1) ∧ w'.cell? ⟨w.heap.size, 2, none⟩ = some (.slice AA accs.length ca)) (ds := [9]) (.replicate 10 false) (by kernel_rfl) rfl rfl (hSS _ hPd) (fun hHeld => ?_)
 refine pure_ (i := 0) (N := some 9) (v := ?_) (a' := ?_) (zb 10 1) rfl rfl (by kernel_rfl) (fun _ _ _ h => h) (Or.inl ⟨by rfl, ?_⟩) ?_ ?_
 rotate_left
 ·intro w'
  go_simp
  with_reducible rfl
 rotate_left
 ·simp only [Act.put, Za, Zb, Zc, i64_w, i32_w]
  rfl
 refine pure_ (i := 2) (N := some 11) (v := ?_) (a' := ?_) (zb 10 5) rfl rfl (by kernel_rfl) (fun _ _ _ h => h) (Or.inl ⟨by rfl, ?_⟩) ?_ ?_
 rotate_left
 ·intro w'
  go_simp
  with_reducible rfl
 rotate_left
 ·simp only [Act.put, Za, Zb, Zc, i64_w, i32_w]
  rfl
 refine pure_ (i := 4) (N := some 13) (v := ?_) (a' := ?_) (zb 10 21) rfl rfl (by kernel_rfl) (fun _ _ _ h => h) (Or.inl ⟨by rfl, ?_⟩) ?_ ?_
 rotate_left
 ·intro w'
  go_simp
  with_reducible rfl
 rotate_left
 ·simp only [Act.put, Za, Zb, Zc, i64_w, i32_w]
  rfl
 refine take_ (i := 1) (N := some 10) (v := ?_) (a' := ?_) (zb 10 23) rfl rfl (by kernel_rfl) (fun _ _ _ h => h) (Or.inl ⟨by rfl, ?_⟩) hHeld ?_ ?_
 rotate_left
 ·rintro w' ⟨s1, s2, s3⟩
  go_simp
  with_reducible rfl
 rotate_left
 ·simp only [Act.put, Za, Zb, Zc, i64_w, i32_w]
  rfl
 refine take_ (i := 3) (N := some 12) (v := ?_) (a' := ?_) (zb 10 31) rfl rfl (by kernel_rfl) (fun _ _ _ h => h) (Or.inl ⟨by rfl, ?_⟩) hHeld ?_ ?_
 rotate_left
 ·rintro w' ⟨s1, s2, s3⟩
  go_simp
  with_reducible rfl
 rotate_left
 ·simp only [Act.put, Za, Zb, Zc, i64_w, i32_w]
  rfl
 refine take_ (i := 5) (N := some 14) (v := ?_) (a' := ?_) (zb 10 63) rfl rfl (by kernel_rfl) (fun _ _ _ h => h) (Or.inl ⟨by rfl, ?_⟩) hHeld ?_ ?_
 rotate_left
 ·rintro w' ⟨s1, s2, s3⟩
  go_simp
  with_reducible rfl
 rotate_left
 ·simp only [Act.put, Za, Zb, Zc, i64_w, i32_w]
  rfl
 refine join_ (σ := Value × Nat) 1 #[true, true, true, true, true, true, true, true, true, false] (fun s => [(15, s.1), (16, .agg #[.int .i64 a0, .int .i64 a1, s.1, .slice none 0 0]), (3, .pointer (some ⟨s.2, 0, none⟩))])
  (fun s w' => Pr w a0 a1 AA accs.length ca AN rows.length cn w' ∧ Kd.R Kd.bool 4 w' w.heap.size (fun _ => True) s.1 accs ∧ w'.heap[s.2]? = some (.cells #[.int .i64 0, .int .i64 0, .slice none 0 0, .slice none 0 0] 66 (0, 0)) ∧ w.heap.size + 1 < s.2) ?_ ?_
 rotate_left
 ·intro hCont
  refine two_ (i := 6) (j := 8) (Ni := some 15) (Nj := some 3) #[true, true, true, true, true, true, true, false, false, false] #[true, true, true, true, true, true, false, false, true, false] rfl rfl rfl rfl (by kernel_rfl) (by decide) (by decide) (fun K hK => ?_) (fun K hK => ?_)
  ·skip
   refine goes_ Tryd.func101 (by kernel_rfl) rfl #[.slice AA accs.length ca] (by rfl) rfl rfl (by (try simp only [List.map_toArray, List.map_cons, List.map_nil]); first | done | rfl) ?_
   with_reducible refine (clone _ AA ca accs h0 hn (Kd.C_below hA hPd.bel)).mono ?_
   rintro e w6 ⟨vA, rfl, r1, hb6⟩
   refine ⟨_, rfl, ?_⟩
   have h6 := hPd.step hb6
   have q1 := Kd.R_lower r1 (Below.size hPd.bel)
   obtain ⟨A1, c1, rfl⟩ := Kd.R_slice q1
   refine hK.out _ _ (hSS _ h6) (fun hHeld => ?_)
   clear hK K
   refine norm_ (a' := ?_) ?_ ?_
   rotate_left
   ·show Act.put _ (some 15) _ = _
    simp only [Act.put, Za, Zb, Zc, i64_w, i32_w]
    rfl
   refine pure_ (i := 7) (N := some 16) (v := ?_) (a' := ?_) (zb 10 255) rfl rfl (by kernel_rfl) (fun _ _ _ h => h) (Or.inl ⟨by rfl, ?_⟩) ?_ ?_
   rotate_left
   ·intro w'
    go_simp
    with_reducible rfl
   rotate_left
   ·simp only [Act.put, Za, Zb, Zc, i64_w, i32_w]
    rfl
   refine one_ (i := 8) (N := some 3) (zb 10 511) rfl rfl (by kernel_rfl) (by decide) (fun K hK => ?_)
   refine value_ (w1 := w6.alloc (.cells #[.int .i64 0, .int .i64 0, .slice none 0 0, .slice none 0 0] 66)) (v := .pointer (some ⟨w6.heap.size, 0, none⟩)) (by rfl) rfl (by first | (go_simp; done) | (go_simp; rfl)) ?_
   have h7 := h6.step (below_alloc (Below.refl _ _) (.cells #[.int .i64 0, .int .i64 0, .slice none 0 0, .slice none 0 0] 66))
   refine hK.out _ _ (hSS _ h7) (fun hHeld => ?_)
   clear hK K
   refine norm_ (a' := ?_) ?_ ?_
   rotate_left
   ·show Act.put _ (some 3) _ = _
    simp only [Act.put, Za, Zb, Zc, i64_w, i32_w]
    rfl
   exact norm_ (by simp only [putAll, Act.put, List.setIfInBounds_toArray, List.set_cons_zero, List.set_cons_succ]) (hCont (.slice A1 accs.length c1, w6.heap.size) _ ⟨h7, Kd.R_below q1 (below_alloc (Below.refl _ _) _), blk_new _ _, h6.lt⟩)
  ·skip
   refine value_ (w1 := wd.drew.alloc (.cells #[.int .i64 0, .int .i64 0, .slice none 0 0, .slice none 0 0] 66)) (v := .pointer (some ⟨wd.drew.heap.size, 0, none⟩)) (by rfl) rfl (by first | (go_simp; done) | (go_simp; rfl)) ?_
   have h6 := hPd.step (below_alloc (Below.refl _ _) (.cells #[.int .i64 0, .int .i64 0, .slice none 0 0, .slice none 0 0] 66))
   refine hK.out _ _ (hSS _ h6) (fun hHeld => ?_)
   clear hK K
   refine norm_ (a' := ?_) ?_ ?_
   rotate_left
   ·show Act.put _ (some 3) _ = _
    simp only [Act.put, Za, Zb, Zc, i64_w, i32_w]
    rfl
   refine one_ (i := 6) (N := some 15) (zb 10 383) rfl rfl (by kernel_rfl) (by decide) (fun K hK => ?_)
   refine goes_ Tryd.func101 (by kernel_rfl) rfl #[.slice AA accs.length ca] (by rfl) rfl rfl (by (try simp only [List.map_toArray, List.map_cons, List.map_nil]); first | done | rfl) ?_
   with_reducible refine (clone _ AA ca accs h0 hn (Kd.C_below hA h6.bel)).mono ?_
   rintro e w7 ⟨vA, rfl, r1, hb6⟩
   refine ⟨_, rfl, ?_⟩
   have h7 := h6.step hb6
   have q1 := Kd.R_lower r1 (Below.size h6.bel)
   obtain ⟨A1, c1, rfl⟩ := Kd.R_slice q1
   refine hK.out _ _ (hSS _ h7) (fun hHeld => ?_)
   clear hK K
   refine norm_ (a' := ?_) ?_ ?_
   rotate_left
   ·show Act.put _ (some 15) _ = _
    simp only [Act.put, Za, Zb, Zc, i64_w, i32_w]
    rfl
   refine pure_ (i := 7) (N := some 16) (v := ?_) (a' := ?_) (zb 10 511) rfl rfl (by kernel_rfl) (fun _ _ _ h => h) (Or.inl ⟨by rfl, ?_⟩) ?_ ?_
   rotate_left
   ·intro w'
    go_simp
    with_reducible rfl
   rotate_left
   ·simp only [Act.put, Za, Zb, Zc, i64_w, i32_w]
    rfl
   exact norm_ (by simp only [putAll, Act.put, List.setIfInBounds_toArray, List.set_cons_zero, List.set_cons_succ]) (hCont (.slice A1 accs.length c1, wd.drew.heap.size) _ ⟨h7, q1, blk_below (blk_new _ _) hb6, hPd.lt⟩)
 rintro ⟨vA, gl⟩ w8 ⟨h8, r1, b0, hgl⟩
 dsimp only at r1 b0 hgl ⊢
 obtain ⟨A1, c1, rfl⟩ := Kd.R_slice r1
 refine norm_ (a' := ?_) ?_ ?_
 rotate_left
 ·simp only [putAll, Act.put, List.setIfInBounds_toArray, List.set_cons_zero, List.set_cons_succ, i64_w, i32_w]
  rfl
 have e0 : w8.cell? ⟨gl, 0, none⟩ = some (.int .i64 0) := (blk_cell b0 0).trans rfl
 have f0 : w8.frozen? ⟨gl, 0, none⟩ = false := blk_frozen b0 0
 have e1 : w8.cell? ⟨gl, 1, none⟩ = some (.int .i64 0) := (blk_cell b0 1).trans rfl
 have f1 : w8.frozen? ⟨gl, 1, none⟩ = false := blk_frozen b0 1
 have e2 : w8.cell? ⟨gl, 2, none⟩ = some (.slice none 0 0) := (blk_cell b0 2).trans rfl
 have f2 : w8.frozen? ⟨gl, 2, none⟩ = false := blk_frozen b0 2
 have e3 : w8.cell? ⟨gl, 3, none⟩ = some (.slice none 0 0) := (blk_cell b0 3).trans rfl
 have f3 : w8.frozen? ⟨gl, 3, none⟩ = false := blk_frozen b0 3
 refine last_ (i := 9) (N := none) (zb 10 1023) rfl rfl (by kernel_rfl) (by decide) (fun K hK => ?_)
 refine skip_ (w1 := (((w8.setCell ⟨gl, 0, none⟩ (.int .i64 a0)).setCell ⟨gl, 1, none⟩ (.int .i64 a1)).setCell ⟨gl, 2, none⟩ (.slice A1 accs.length c1)).setCell ⟨gl, 3, none⟩ (.slice none 0 0)) (by rfl) rfl (by first | (go_simp; done) | (go_simp; rfl)) ?_
 refine hK.out _ _ ?_
 clear hK K
 refine done_ (by kernel_rfl) ?_
 have hgg : w.heap.size ≤ gl := by omega
 have n0 : some w.heap.size ≠ some gl := fun e => by injection e; omega
 have n1 : some (w.heap.size + 1) ≠ some gl := fun e => by injection e; omega
 have b1 := blk_put b0 0 (.int .i64 a0) rfl
 have b2 := blk_put b1 1 (.int .i64 a1) rfl
 have b3 := blk_put b2 2 (.slice A1 accs.length c1) rfl
 have b4 := blk_put b3 3 (.slice none 0 0) rfl
 have q1 := Kd.R_set (Kd.R_set (Kd.R_set (Kd.R_set r1 b0 (by decide) 0 (.int .i64 a0)) b1 (by decide) 1 (.int .i64 a1)) b2 (by decide) 2 (.slice A1 accs.length c1)) b3 (by decide) 3 (.slice none 0 0)
 have hB := (((h8.bel.setCell (p := ⟨gl, 0, none⟩) hgg (.int .i64 a0)).setCell (p := ⟨gl, 1, none⟩) hgg (.int .i64 a1)).setCell (p := ⟨gl, 2, none⟩) hgg (.slice A1 accs.length c1)).setCell (p := ⟨gl, 3, none⟩) hgg (.slice none 0 0)
 have bP := (Keep.set _ ⟨gl, 3, none⟩ (.slice none 0 0)).obj ((Keep.set _ ⟨gl, 2, none⟩ (.slice A1 accs.length c1)).obj ((Keep.set _ ⟨gl, 1, none⟩ (.int .i64 a1)).obj ((Keep.set _ ⟨gl, 0, none⟩ (.int .i64 a0)).obj h8.bP n0) n0) n0) n0
 have bR := (Keep.set _ ⟨gl, 3, none⟩ (.slice none 0 0)).obj ((Keep.set _ ⟨gl, 2, none⟩ (.slice A1 accs.length c1)).obj ((Keep.set _ ⟨gl, 1, none⟩ (.int .i64 a1)).obj ((Keep.set _ ⟨gl, 0, none⟩ (.int .i64 a0)).obj h8.bR n1) n1) n1) n1
 clear b0 b1 b2 b3 r1 e0 e1 e2 e3 f0 f1 f2 f3 h8 hSS hPd n0 n1
 generalize ((((w8.setCell ⟨gl, 0, none⟩ (.int .i64 a0)).setCell ⟨gl, 1, none⟩ (.int .i64 a1)).setCell ⟨gl, 2, none⟩ (.slice A1 accs.length c1)).setCell ⟨gl, 3, none⟩ (.slice none 0 0)) = w9 at *
 have hM : Mk w a0 a1 AA accs.length ca AN rows.length cn gl (.slice A1 accs.length c1) accs (.slice none 0 0) [] none w9 := ⟨⟨bP, bR, hB⟩, b4, q1, Kd.R_nil _ _ _ _ _⟩
 have c3 : w9.cell? ⟨w.heap.size, 3, none⟩ = some (.slice AN rows.length cn) := (blk_cell bP 3).trans rfl
 clear bP bR hB b4 q1
 go_wp2
 clear c3
 go_loopg [20] rows.length (fun kq v20 wr => ∃ (i : Nat) (A2 : Option Addr) (c2 : Nat), v20 = .int .i64 (i : Int) ∧ Aside0 (kq = rows.length - i) ∧ i ≤ rows.length ∧ Aside0 (Mk w a0 a1 AA accs.length ca AN rows.length cn gl (.slice A1 accs.length c1) accs (.slice A2 i c2) (rows.take i) none wr))
 case atStart => exact ⟨0, none, 0, rfl, ⟨by simp⟩, Nat.zero_le _, ⟨hM⟩⟩
 case round =>
  clear hM
  obtain ⟨wo, rfl⟩ : ∃ wo : World, wo = wr := ⟨_, rfl⟩
  obtain ⟨i, A2, c2, rfl, hkq, hil, hM⟩ := hrel
  replace hM := hM.out
  by_cases hlt : i < rows.length
  ·obtain ⟨ad, rfl, A', c', k1, k2, k3⟩ := at_row (Kd.C_below hN hM.p.bel) i hlt
   have hrl : rows[i].length ≤ 1000000 := hn3 _ (List.getElem_mem hlt)
   have htk : rows.take (i + 1) = rows.take i ++ [rows[i]] := List.take_succ_eq_append_getElem hlt
   have htk2 := Aside0.mk htk
   clear htk
   generalize rows[i] = ri at *
   have hlt1 : ((i : Int) < (rows.length : Int)) = True := eq_true (by omega)
   have h0i : (0 ≤ (i : Int)) = True := eq_true (by omega)
   go_wp2_with fail
   go_loopg [6, 26] ri.length (fun kq v6 v26 wq => ∃ (j : Nat) (Ar : Option Addr) (cr : Nat), v6 = .slice Ar j cr ∧ v26 = .int .i64 (j : Int) ∧ Aside0 (kq = ri.length - j) ∧ j ≤ ri.length ∧ Aside0 (Below wo.heap.size wo wq) ∧ Aside0 (Kd.R (Kd.int .i64) 3 wq wo.heap.size (fun _ => True) (.slice Ar j cr) (ri.take j)) ∧ Aside0 (Mk w a0 a1 AA accs.length ca (some ad) rows.length cn gl (.slice A1 accs.length c1) accs (.slice A2 i c2) (rows.take i) (Value.slice Ar j cr).ownBlock wq))
   case atStart => exact ⟨0, none, 0, rfl, rfl, ⟨by simp⟩, Nat.zero_le _, ⟨Below.refl _ _⟩, ⟨Kd.R_nil _ _ _ _ _⟩, ⟨hM⟩⟩
   case round =>
    obtain ⟨j, Ar, cr, rfl, rfl, hkj, hjl, hbq, hr, hQ⟩ := hrel
    replace hr := hr.out
    replace hQ := hQ.out
    by_cases hjt : j < ri.length
    ·obtain ⟨a2, rfl, m1⟩ := at_num (Kd.C_below k3 hbq.out) j hjt
     have htj : ri.take (j + 1) = ri.take j ++ [ri[j]] := List.take_succ_eq_append_getElem hjt
     have htj2 := Aside0.mk htj
     have hjl2 : Aside0 ((ri.take j).length = j) := ⟨by rw [List.length_take]; omega⟩
     clear htj
     generalize ri[j] = y at *
     have hlt2 : ((j : Int) < (ri.length : Int)) = True := eq_true (by omega)
     have h0j : (0 ≤ (j : Int)) = True := eq_true (by omega)
     go_wp2_with ((with_reducible refine gate_builtin (b := .append) (xs := #[.tmp 30, .tmp 32]) rfl ?_); go_loud (at_builtin; refine R_append' (Kd.int .i64) (w0 := wo) wo.heap.size rfl (.tmp 30) (.tmp 32) 87 3 (.int .i64 0) 8 rfl Tryd.underlying87 GwI.info_int rfl (by decide) (by decide) (.slice Ar j cr) (ri.take j) y [.int .i64 y] (fun _ => True) (fun _ => False) _ (by simp) rfl rfl rfl (fun _ h => h.elim) (fun _ _ => trivial) hr hbq.out (Below.size hbq.out) (by have := hjl2.out; omega) ?_; intro v6 w6 hR6 hb6 hg6 hat6; obtain ⟨A6, c6, hv6⟩ := Kd.R_slice hR6; have ev : (ri.take j ++ [y]).length = j + 1 := (by rw [List.length_append, hjl2.out]; rfl); rw [ev] at hv6; subst hv6; have h6 := hQ.more hr hg6 hat6 (below_step hM.p.bel hb6)))
     go_roundg (ri.length - (j + 1))
     case measure => have := hkj.out; omega
     case rel => exact ⟨j + 1, A6, c6, rfl, (by go_num), ⟨by simp⟩, by omega, ⟨hb6⟩, ⟨by rw [htj2.out]; exact hR6⟩, ⟨h6⟩⟩
    ·have hjj : j = ri.length := by omega
     subst j
     have hlt2 : ((ri.length : Int) < (ri.length : Int)) = False := eq_false (by omega)
     rw [List.take_length] at hr
     have cV : wr.cell? ⟨gl, 3, none⟩ = some (.slice A2 i c2) := (blk_cell hQ.bV 3).trans rfl
     have hil2 : Aside0 ((rows.take i).length = i) := ⟨by rw [List.length_take]; omega⟩
     go_wp2_with ((with_reducible refine gate_builtin (b := .append) (xs := #[.tmp 36, .tmp 38]) rfl ?_); go_loud (at_builtin; refine R_append' (Kd.slice 3 (Kd.int .i64)) (w0 := w) w.heap.size rfl (.tmp 36) (.tmp 38) 64 87 (.slice none 0 0) 24 rfl Tryd.underlying64 GwI.info_ints rfl (by decide) (by decide) (.slice A2 i c2) (rows.take i) ri [.slice Ar ri.length cr] (fun _ => True) (fun k => True ∧ some k ≠ (Value.slice A2 i c2).ownBlock) _ (by simp) rfl rfl (Kd.M_row (R_typed (Kd.R_lower hr (Below.size hM.p.bel)) hQ.nxt (by decide))) (fun _ hk => hk) (fun _ _ => trivial) (Kd.R_mono hQ.nxt (fun _ _ => trivial)) hQ.p.bel (Below.size hQ.p.bel) (by have := hil2.out; omega) ?_; intro v8 w8 hR8 hb8 hg8 hat8; obtain ⟨A8, c8, hv8⟩ := Kd.R_slice hR8; have ev8 : (rows.take i ++ [ri]).length = i + 1 := (by rw [List.length_append, hil2.out]; rfl); rw [ev8] at hv8; subst hv8; obtain ⟨b8, h9⟩ := hQ.push hg8 hR8 hb8 hgl; have c83 : w8.cell? ⟨gl, 3, none⟩ = some (.slice A2 i c2) := (blk_cell b8 3).trans rfl; have f83 : w8.frozen? ⟨gl, 3, none⟩ = false := blk_frozen b8 3))
     go_roundg (rows.length - (i + 1))
     case measure => have := hkq.out; omega
     case rel => exact ⟨i + 1, A8, c8, (by go_num), ⟨by simp⟩, by omega, ⟨by rw [htk2.out]; exact h9⟩⟩
  ·have hii : i = rows.length := by omega
   subst i
   have hlt1 : ((rows.length : Int) < (rows.length : Int)) = False := eq_false (by omega)
   rw [List.take_length] at hM
   have bV := hM.bV
   have d0 : wo.cell? ⟨gl, 0, none⟩ = some (.int .i64 a0) := (blk_cell bV 0).trans rfl
   have d1 : wo.cell? ⟨gl, 1, none⟩ = some (.int .i64 a1) := (blk_cell bV 1).trans rfl
   have d2 : wo.cell? ⟨gl, 2, none⟩ = some (.slice A1 accs.length c1) := (blk_cell bV 2).trans rfl
   have d3 : wo.cell? ⟨gl, 3, none⟩ = some (.slice A2 rows.length c2) := (blk_cell bV 3).trans rfl
   have b := hM.p.bR
   have e0 : wo.cell? ⟨w.heap.size + 1, 0, none⟩ = some (.int .i64 0) := (blk_cell b 0).trans rfl
   have e1 : wo.cell? ⟨w.heap.size + 1, 1, none⟩ = some (.int .i64 0) := (blk_cell b 1).trans rfl
   have e2 : wo.cell? ⟨w.heap.size + 1, 2, none⟩ = some (.slice none 0 0) := (blk_cell b 2).trans rfl
   have e3 : wo.cell? ⟨w.heap.size + 1, 3, none⟩ = some (.slice none 0 0) := (blk_cell b 3).trans rfl
   have f0 : wo.frozen? ⟨w.heap.size + 1, 0, none⟩ = false := blk_frozen b 0
   have f1 : wo.frozen? ⟨w.heap.size + 1, 1, none⟩ = false := blk_frozen b 1
   have f2 : wo.frozen? ⟨w.heap.size + 1, 2, none⟩ = false := blk_frozen b 2
   have f3 : wo.frozen? ⟨w.heap.size + 1, 3, none⟩ = false := blk_frozen b 3
   go_wp2_with fail
   have b1 := blk_put b 0 (.int .i64 a0) rfl
   have b2 := blk_put b1 1 (.int .i64 a1) rfl
   have b3 := blk_put b2 2 (.slice A1 accs.length c1) rfl
   have b5 := blk_put b3 3 (.slice A2 rows.length c2) rfl
   refine bodyPost_ret (results_cell_row rfl _ _ (w.heap.size + 1) 66 #[.int .i64 a0, .int .i64 a1, .slice A1 accs.length c1, .slice A2 rows.length c2] (0, 0) _ rfl b5 Tryd.underlying66 rfl (by kernel_rfl)) rfl ⟨_, _, rfl, ?_, ?_, ?_⟩
   ·exact Kd.R_set (Kd.R_set (Kd.R_set (Kd.R_set hM.acc b (by decide) 0 _) b1 (by decide) 1 _) b2 (by decide) 2 _) b3 (by decide) 3 _
   ·exact Kd.R_mono (Kd.R_set (Kd.R_set (Kd.R_set (Kd.R_set hM.nxt b (by decide) 0 _) b1 (by decide) 1 _) b2 (by decide) 2 _) b3 (by decide) 3 _) (fun _ _ => trivial)
   ·exact (((hM.p.bel.setCell (by simp) _).setCell (by simp) _).setCell (by simp) _).setCell (by simp) _
end Go.Proofs.YtnjdkhnepmmfgaaDoor.Mo
namespace Go.Proofs.YtnjdkhnepmmfgaaDoor.Mk
set_option linter.unusedVariables false
set_option linter.unusedSimpArgs false
open Go.RowKit Go.Proofs.YtnjdkhnepmmfgaaDoorW.PrintWords Go.Proofs.YtnjdkhnepmmfgaaDoorW.PrintLast Go.Proofs.YtnjdkhnepmmfgaaDoorW.PrintMore Kp Mg
abbrev Row : Kd (List Int) := Kd.slice 2 (Kd.int .i64)
/-- W is w but for blocks in S, all of them from n on, and what is new. -/
structure KeepS (n : Nat) (w W : World) (S : Nat → Prop) : Prop where
 le : n ≤ w.heap.size
 bel : Below n w W
 blk : ∀ k, k < w.heap.size → ¬ S k → W.heap[k]? = w.heap[k]?
section
variable {n : Nat} {w W W' : World} {S S' : Nat → Prop}
theorem KeepS.refl (w : World) (S : Nat → Prop) (h : n ≤ w.heap.size) : KeepS n w w S := ⟨h, Below.refl _ _, fun _ _ _ => rfl⟩
theorem KeepS.size (h : KeepS n w W S) : w.heap.size ≤ W.heap.size := Below.size h.bel
theorem KeepS.below (h : KeepS n w W S) (hb : Below W.heap.size W W') : KeepS n w W' S := ⟨h.le, h.bel.trans (hb.mono (Nat.le_trans h.le h.size)), fun k hk hs => (hb.block k (Nat.lt_of_lt_of_le hk h.size)).trans (h.blk k hk hs)⟩
theorem KeepS.trans {n' : Nat} (h : KeepS n w W S) (h' : KeepS n' W W' S') (hn : n ≤ n') (hs : ∀ k, S' k → S k ∨ w.heap.size ≤ k) : KeepS n w W' S :=
 ⟨h.le, h.bel.trans (h'.bel.mono hn), fun k hk hn => (h'.blk k (Nat.lt_of_lt_of_le hk h.size) (fun h2 => (hs k h2).elim hn (fun h3 => by omega))).trans (h.blk k hk hn)⟩
theorem KeepS.set (h : KeepS n w W S) {p : Addr} (hp : S p.block) (hq : n ≤ p.block) (u : Value) : KeepS n w (W.setCell p u) S :=
 ⟨h.le, h.bel.setCell hq u, fun k hk hn => (Below.heap_setCell W p u k (fun e => hn (by rw [e]; exact hp))).trans (h.blk k hk hn)⟩
theorem KeepS.mono (h : KeepS n w W S) (hs : ∀ k, S k → S' k) : KeepS n w W S' := ⟨h.le, h.bel, fun k hk hn => h.blk k hk (fun h2 => hn (hs k h2))⟩
end
/-! ### the marks -/
def mB (k n : Nat) : List Bool := (List.range n).map fun i => decide ((k + i) % 3 = 0)
def mN (k n : Nat) : List Int := (List.range n).map fun i => ((k + i : Nat) : Int)
theorem mB_length (k n : Nat) : (mB k n).length = n := by simp [mB]
theorem mN_length (k n : Nat) : (mN k n).length = n := by simp [mN]
theorem part {α : Type} (f : Nat → α) {n i : Nat} (xs : List α) (hl : xs.length = n) (hi : i < n) : ((List.range i).map f ++ xs.drop i).set i (f i) = (List.range (i + 1)).map f ++ xs.drop (i + 1) := by
 have e : xs.drop i = xs[i]'(by omega) :: xs.drop (i + 1) := List.drop_eq_getElem_cons (by omega)
 rw [e, List.set_append_right _ _ (by simp), List.length_map, List.length_range, Nat.sub_self, List.set_cons_zero, List.range_succ, List.map_append, List.append_assoc]
 rfl
def tot (l : List (List Int)) : Nat := (l.map List.length).sum
def mR (k : Nat) : List (List Int) → List (List Int)
 | [] => []
 | r :: l => mN k r.length :: mR (k + r.length) l
theorem mR_length (k : Nat) (l : List (List Int)) : (mR k l).length = l.length := by
 induction l generalizing k with
 | nil => rfl
 | cons r l ih => rw [mR, List.length_cons, List.length_cons, ih]
theorem tot_cons (r : List Int) (l : List (List Int)) : tot (r :: l) = r.length + tot l := by simp [tot]
theorem tot_append (a b : List (List Int)) : tot (a ++ b) = tot a + tot b := by unfold tot; rw [List.map_append, List.sum_append]
theorem tot_one (r : List Int) : tot [r] = r.length := by simp [tot]
theorem tot_take {l : List (List Int)} {i : Nat} (h : i < l.length) : tot (l.take (i + 1)) = tot (l.take i) + l[i].length := by
 rw [List.take_succ_eq_append_getElem h, tot_append, tot_one]
theorem tot_le (l : List (List Int)) (i : Nat) : tot (l.take i) ≤ tot l := by
 have : tot l = tot (l.take i) + tot (l.drop i) := by rw [← tot_append, List.take_append_drop]
 omega
theorem mR_snoc (k : Nat) (l : List (List Int)) (r : List Int) : mR k (l ++ [r]) = mR k l ++ [mN (k + tot l) r.length] := by
 induction l generalizing k with
 | nil => simp [mR, tot]
 | cons a l ih => rw [List.cons_append, mR, ih, mR, tot_cons, Nat.add_assoc]; rfl
theorem mR_step (k : Nat) {l : List (List Int)} {i : Nat} (h : i < l.length) : (mR k (l.take i) ++ l.drop i).set i (mN (k + tot (l.take i)) l[i].length) = mR k (l.take (i + 1)) ++ l.drop (i + 1) := by
 have e : l.drop i = l[i] :: l.drop (i + 1) := List.drop_eq_getElem_cons h
 rw [e, List.set_append_right _ _ (by rw [mR_length, List.length_take]; omega), mR_length, List.length_take, Nat.min_eq_left (by omega), Nat.sub_self, List.set_cons_zero, List.take_succ_eq_append_getElem h, mR_snoc, List.append_assoc]
 rfl
theorem mR_get (k : Nat) {l : List (List Int)} {i : Nat} (h : i < l.length) : (mR k l)[i]'(by rw [mR_length]; exact h) = mN (k + tot (l.take i)) l[i].length := by
 induction l generalizing k i with
 | nil => simp at h
 | cons r l ih =>
  cases i with
  | zero => simp [mR, tot]
  | succ i =>
   have := ih (k + r.length) (i := i) (by simpa using h)
   simp only [mR, List.getElem_cons_succ, List.take_succ_cons, tot_cons]
   rw [this, Nat.add_assoc]
/-! ### they are put -/
set_option maxHeartbeats 2000000 in
set_option maxRecDepth 100000 in
theorem markB (k : Nat) (A : Option Addr) (c : Nat) (xs : List Bool) (w : World) (base : Nat) (ok : Nat → Prop) (hle : base ≤ w.heap.size) (h : Kd.R Kd.bool 4 w base ok (.slice A xs.length c) xs) (hk : k + xs.length ≤ 1000000000) :
  Calls Tryd.prog 34 #[.slice A xs.length c, .int .i64 (k : Int)] w fun e w' => e = .returned (.int .i64 ((k + xs.length : Nat) : Int)) ∧ Kd.R Kd.bool 4 w' base ok (.slice A xs.length c) (mB k xs.length) ∧ KeepS base w w' (fun b => some b = (Value.slice A xs.length c).ownBlock) := by
 have h0 := Aside0.mk h
 clear h
 go_enter Tryd.func34, Tryd.ntmps34
 go_wp2_with fail
 go_loopg [1, 5] xs.length (fun kq v1 v5 W => ∃ i : Nat, v1 = .int .i64 ((k + i : Nat) : Int) ∧ v5 = .int .i64 (i : Int) ∧ Aside0 (kq = xs.length - i) ∧ i ≤ xs.length ∧ Aside0 (Kd.R Kd.bool 4 W base ok (.slice A xs.length c) ((List.range i).map (fun j => decide ((k + j) % 3 = 0)) ++ xs.drop i)) ∧ Aside0 (KeepS base w W (fun b => some b = (Value.slice A xs.length c).ownBlock)))
 case atStart => exact ⟨0, rfl, rfl, ⟨rfl⟩, Nat.zero_le _, ⟨by simpa using h0.out⟩, ⟨KeepS.refl _ _ hle⟩⟩
 case round =>
  obtain ⟨i, rfl, rfl, hq, hil, hR, hK⟩ := hrel
  by_cases hi : i < xs.length
  ·have hi1 : ((i : Int) < (xs.length : Int)) = True := eq_true (by omega)
   have h0i : (0 ≤ (i : Int)) = True := eq_true (by omega)
   have hl : ((List.range i).map (fun j => decide ((k + j) % 3 = 0)) ++ xs.drop i).length = xs.length := by simp; omega
   obtain ⟨g, cg, hv, hgb, _, cells, hcg⟩ := Kd.R_form hR.out (by omega)
   obtain ⟨rfl, rfl⟩ : A = some ⟨g, 0, none⟩ ∧ c = cg := by
    simp only [Value.slice.injEq] at hv
    exact ⟨hv.1, hv.2.2⟩
   have f1 : wr.frozen? ⟨g, i, none⟩ = false := blk_frozen hcg i
   obtain ⟨ad, e1, k1⟩ := at_mark (Kd.R_reads' hR.out).2.2 i (by omega)
   cases e1
   have ea : (⟨g, 0, none⟩ : Addr).add i = ⟨g, i, none⟩ := by
    by_cases h0 : i = 0
    ·subst h0; rfl
    ·simp [Addr.add, h0]
   rw [ea] at k1
   have hm : Int.tmod ((k + i : Nat) : Int) 3 = (((k + i) % 3 : Nat) : Int) := rfl
   have hR2 := Kd.R_putn hR.out (i : Int) (decide ((k + i) % 3 = 0))
   rw [Int.toNat_natCast, part (fun j => decide ((k + j) % 3 = 0)) xs rfl hi] at hR2
   have hK2 := Aside0.mk (hK.out.set (p := ⟨g, i, none⟩) (by simp [Value.ownBlock]) hgb (.bool (decide ((k + i) % 3 = 0))))
   have hR3 := Aside0.mk hR2
   have hz : decide ((((k + i) % 3 : Nat) : Int) = 0) = decide ((k + i) % 3 = 0) := by rw [decide_eq_decide]; omega
   have hz3 : (((k : Int) + (i : Int)) % 3 == 0) = decide ((k + i) % 3 = 0) := by
    rw [← Int.natCast_add]
    exact hz
   have hkw : wrap64 (((k + i : Nat) : Int) + 1) = ((k + (i + 1) : Nat) : Int) := by unfold wrap64; omega
   obtain ⟨ob, k2⟩ : ∃ x, wr.cell? ⟨g, i, none⟩ = some x := ⟨_, k1⟩
   clear k1 hR2 hcg cells hv hl ea
   generalize decide ((k + i) % 3 = 0) = mb at *
   go_wp2_with fail
   go_roundg (xs.length - (i + 1))
   case measure => have := hq.out; omega
   case rel => exact ⟨i + 1, (by first | rfl | (rw [← hkw]; rfl)), (by go_num), ⟨by simp⟩, by omega, hR3, hK2⟩
  ·have hi1 : ((i : Int) < (xs.length : Int)) = False := eq_false (by omega)
   have he : i = xs.length := by omega
   subst he
   have hR2 := hR.out
   rw [List.drop_length, List.append_nil] at hR2
   go_wp2_with fail
   go_ret
   exact ⟨rfl, hR2, hK.out⟩
set_option maxHeartbeats 2000000 in
set_option maxRecDepth 100000 in
theorem markN (k : Nat) (A : Option Addr) (c : Nat) (xs : List Int) (w : World) (base : Nat) (ok : Nat → Prop) (hle : base ≤ w.heap.size) (h : Kd.R (Kd.int .i64) 2 w base ok (.slice A xs.length c) xs) (hk : k + xs.length ≤ 1000000000) :
  Calls Tryd.prog 77 #[.slice A xs.length c, .int .i64 (k : Int)] w fun e w' => e = .returned (.int .i64 ((k + xs.length : Nat) : Int)) ∧ Kd.R (Kd.int .i64) 2 w' base ok (.slice A xs.length c) (mN k xs.length) ∧ KeepS base w w' (fun b => some b = (Value.slice A xs.length c).ownBlock) := by
 have h0 := Aside0.mk h
 clear h
 go_enter Tryd.func77, Tryd.ntmps77
 go_wp2_with fail
 go_loopg [1, 5] xs.length (fun kq v1 v5 W => ∃ i : Nat, v1 = .int .i64 ((k + i : Nat) : Int) ∧ v5 = .int .i64 (i : Int) ∧ Aside0 (kq = xs.length - i) ∧ i ≤ xs.length ∧ Aside0 (Kd.R (Kd.int .i64) 2 W base ok (.slice A xs.length c) ((List.range i).map (fun j => ((k + j : Nat) : Int)) ++ xs.drop i)) ∧ Aside0 (KeepS base w W (fun b => some b = (Value.slice A xs.length c).ownBlock)))
 case atStart => exact ⟨0, rfl, rfl, ⟨rfl⟩, Nat.zero_le _, ⟨by simpa using h0.out⟩, ⟨KeepS.refl _ _ hle⟩⟩
 case round =>
  obtain ⟨i, rfl, rfl, hq, hil, hR, hK⟩ := hrel
  by_cases hi : i < xs.length
  ·have hi1 : ((i : Int) < (xs.length : Int)) = True := eq_true (by omega)
   have h0i : (0 ≤ (i : Int)) = True := eq_true (by omega)
   have hl : ((List.range i).map (fun j => ((k + j : Nat) : Int)) ++ xs.drop i).length = xs.length := by simp; omega
   obtain ⟨g, cg, hv, hgb, _, cells, hcg⟩ := Kd.R_form hR.out (by omega)
   obtain ⟨rfl, rfl⟩ : A = some ⟨g, 0, none⟩ ∧ c = cg := by
    simp only [Value.slice.injEq] at hv
    exact ⟨hv.1, hv.2.2⟩
   have f1 : wr.frozen? ⟨g, i, none⟩ = false := blk_frozen hcg i
   obtain ⟨ad, e1, k1⟩ := at_num (Kd.R_reads' hR.out).2.2 i (by omega)
   cases e1
   have ea : (⟨g, 0, none⟩ : Addr).add i = ⟨g, i, none⟩ := by
    by_cases h0 : i = 0
    ·subst h0; rfl
    ·simp [Addr.add, h0]
   rw [ea] at k1
   have hR2 := Kd.R_putn hR.out (i : Int) ((k + i : Nat) : Int)
   rw [Int.toNat_natCast, part (fun j => ((k + j : Nat) : Int)) xs rfl hi] at hR2
   have hK2 := Aside0.mk (hK.out.set (p := ⟨g, i, none⟩) (by simp [Value.ownBlock]) hgb (.int .i64 ((k + i : Nat) : Int)))
   have hR3 := Aside0.mk hR2
   have hkw : wrap64 (((k + i : Nat) : Int) + 1) = ((k + (i + 1) : Nat) : Int) := by unfold wrap64; omega
   obtain ⟨ob, k2⟩ : ∃ x, wr.cell? ⟨g, i, none⟩ = some x := ⟨_, k1⟩
   clear k1 hR2 hcg cells hv hl ea
   go_wp2_with fail
   go_roundg (xs.length - (i + 1))
   case measure => have := hq.out; omega
   case rel => exact ⟨i + 1, (by first | rfl | (rw [← hkw]; rfl)), (by go_num), ⟨by simp⟩, by omega, hR3, hK2⟩
  ·have hi1 : ((i : Int) < (xs.length : Int)) = False := eq_false (by omega)
   have he : i = xs.length := by omega
   subst he
   have hR2 := hR.out
   rw [List.drop_length, List.append_nil] at hR2
   go_wp2_with fail
   go_ret
   exact ⟨rfl, hR2, hK.out⟩
theorem row_in {w W : World} {base : Nat} {ok : Nat → Prop} {A : Option Addr} {n c i : Nat} {ys : List (List Int)} (h : Kd.S Row 75 w base ok (.slice A n c) ys) (hi : i < ys.length) :
  ∃ (ad : Addr) (oki : Nat → Prop) (A' : Option Addr) (c' : Nat), A = some ad ∧ w.cell? (ad.add i) = some (.slice A' ys[i].length c') ∧ Kd.R (Kd.int .i64) 2 w base oki (.slice A' ys[i].length c') ys[i] ∧ (∀ k, oki k → ok k) ∧
   ∀ (W : World) (r : List Int), KeepS base w W oki → r.length = ys[i].length → Kd.R (Kd.int .i64) 2 W base oki (.slice A' ys[i].length c') r → Kd.S Row 75 W base ok (.slice A n c) (ys.set i r) := by
 obtain ⟨g, cg, hv, _, _, cells, hcg⟩ := Kd.S_form h (by omega)
 obtain ⟨rfl, rfl, rfl⟩ : A = some ⟨g, 0, none⟩ ∧ n = ys.length ∧ c = cg := by
  simp only [Value.slice.injEq] at hv
  exact ⟨hv.1, by omega, hv.2.2⟩
 obtain ⟨oki, ce, hcl, hM, hcc, hoki, hH⟩ := Kd.S_lend h [] (i : Int) (by omega) (by omega)
 obtain ⟨ve, rfl, hR⟩ := hM
 have hc0 := hcc 0 _ rfl
 have es : Row.sz = 1 := rfl
 have ex : ys.getD (i : Int).toNat [] = ys[i] := by simp [List.getD_eq_getElem?_getD, hi]
 rw [ex] at hR
 simp only [es, Nat.mul_one, Nat.add_zero, Int.toNat_natCast] at hc0
 obtain ⟨A', c', rfl⟩ := Kd.R_slice hR
 have ea : (⟨g, 0, none⟩ : Addr).add i = ⟨g, i, none⟩ := by
  by_cases h0 : i = 0
  ·subst h0; rfl
  ·simp [Addr.add, h0]
 refine ⟨_, oki, A', c', rfl, by rw [ea]; exact hc0, hR, fun k hk => (hoki k hk).1, fun W r hK hrl hR' => ?_⟩
 have := Kd.H_back (Kd.H_step hH (fun k _ hn hlt => hK.blk k hlt hn)) (x' := r) (okp := oki) ⟨_, rfl, hR'⟩ (fun _ hk => hk)
 rwa [Int.toNat_natCast] at this
set_option maxHeartbeats 2000000 in
set_option maxRecDepth 100000 in
theorem markR (k : Nat) (A : Option Addr) (c : Nat) (xs : List (List Int)) (w : World) (base : Nat) (ok : Nat → Prop) (hle : base ≤ w.heap.size) (h : Kd.S Row 75 w base ok (.slice A xs.length c) xs) (hl0 : xs.length ≤ 2000000) (hk : k + tot xs ≤ 1000000000) :
  Calls Tryd.prog 35 #[.slice A xs.length c, .int .i64 (k : Int)] w fun e w' => e = .returned (.int .i64 ((k + tot xs : Nat) : Int)) ∧ Kd.S Row 75 w' base ok (.slice A xs.length c) (mR k xs) ∧ KeepS base w w' ok := by
 have h0 := Aside0.mk h
 clear h
 go_enter Tryd.func35, Tryd.ntmps35
 go_wp2_with fail
 go_loopg [1, 5] xs.length (fun kq v1 v5 W => ∃ i : Nat, v1 = .int .i64 ((k + tot (xs.take i) : Nat) : Int) ∧ v5 = .int .i64 (i : Int) ∧ Aside0 (kq = xs.length - i) ∧ i ≤ xs.length ∧ Aside0 (Kd.S Row 75 W base ok (.slice A xs.length c) (mR k (xs.take i) ++ xs.drop i)) ∧ Aside0 (KeepS base w W ok))
 case atStart => exact ⟨0, rfl, rfl, ⟨rfl⟩, Nat.zero_le _, ⟨by simpa [mR] using h0.out⟩, ⟨KeepS.refl _ _ hle⟩⟩
 case round =>
  obtain ⟨i, rfl, rfl, hq, hil, hR, hK⟩ := hrel
  by_cases hi : i < xs.length
  ·have hi1 : ((i : Int) < (xs.length : Int)) = True := eq_true (by omega)
   have h0i : (0 ≤ (i : Int)) = True := eq_true (by omega)
   have hlm : (mR k (xs.take i)).length = i := by rw [mR_length, List.length_take]; omega
   have hl : (mR k (xs.take i) ++ xs.drop i).length = xs.length := by rw [List.length_append, hlm, List.length_drop]; omega
   have eg : (mR k (xs.take i) ++ xs.drop i)[i]'(by omega) = xs[i] := by
    rw [List.getElem_append_right (by omega), List.getElem_drop]
    congr 1
    omega
   obtain ⟨ad, oki, A', c', rfl, e1, hRi, hoki, hback⟩ := row_in (W := wr) hR.out (i := i) (by omega)
   rw [eg] at e1 hRi hback
   have hst := mR_step k hi
   have ht1 := tot_take hi
   have ht2 := tot_le xs (i + 1)
   obtain ⟨T, hT⟩ : ∃ T, k + tot (xs.take i) = T := ⟨_, rfl⟩
   obtain ⟨r, hr⟩ : ∃ r, xs[i] = r := ⟨_, rfl⟩
   rw [hT, hr] at hst
   have hT2 : k + tot (xs.take (i + 1)) = T + r.length := by rw [ht1, hr]; omega
   have hTl : T + r.length ≤ 1000000000 := by omega
   have hTq := Aside0.mk hT2
   rw [hr] at e1 hRi hback
   have hst2 := Aside0.mk hst
   have hRq := Aside0.mk hRi
   have hbq := Aside0.mk hback
   clear hst ht1 ht2 hr hlm hl eg hT2 hRi hback
   rw [hT]
   clear hT
   go_wp2_with (go_at_call 77; go_loud (
    with_reducible refine (markN T A' c' r wr base oki (Nat.le_trans hle hK.out.size) hRq.out hTl).mono ?_
    rintro e w5 ⟨rfl, hR5, hK5⟩
    have hS5 := Aside0.mk (hbq.out w5 _ (hK5.mono (fun b hb => hR5.1 b hb.symm)) (mN_length _ _) hR5)
    have hK6 := Aside0.mk (hK.out.trans (hK5.mono (fun b hb => hR5.1 b hb.symm)) (Nat.le_refl _) (fun b hb => .inl (hoki b hb)))))
   go_roundg (xs.length - (i + 1))
   case measure => have := hq.out; omega
   case rel => exact ⟨i + 1, (by have := hTq.out; congr 1; omega), (by go_num), ⟨by simp⟩, by omega, ⟨by rw [← hst2.out]; exact hS5.out⟩, hK6⟩
  ·have hi1 : ((i : Int) < (xs.length : Int)) = False := eq_false (by omega)
   have he : i = xs.length := by omega
   subst he
   have hR2 := hR.out
   rw [List.drop_length, List.append_nil, List.take_length] at hR2
   rw [List.take_length]
   go_wp2_with fail
   go_ret
   exact ⟨rfl, hR2, hK.out⟩
/-! ### they are found -/
set_option maxHeartbeats 2000000 in
theorem heldB (k n : Nat) (A : Option Addr) (c : Nat) (w : World) (h : Kd.C Kd.bool w A n (mB k n)) (hk : k + n ≤ 1000000000) :
  Calls Tryd.prog 36 #[.slice A n c, .int .i64 (k : Int)] w fun e w' => e = .returned (.int .i64 ((k + n : Nat) : Int)) ∧ Below w.heap.size w w' := by
 go_enter Tryd.func36, Tryd.ntmps36
 go_wp2_with fail
 go_loopg [1, 5] n (fun kq v1 v5 W => ∃ i : Nat, v1 = .int .i64 ((k + i : Nat) : Int) ∧ v5 = .int .i64 (i : Int) ∧ Aside0 (kq = n - i) ∧ i ≤ n ∧ Aside0 (Below w.heap.size w W))
 case atStart => exact ⟨0, rfl, rfl, ⟨rfl⟩, Nat.zero_le _, ⟨Below.refl _ _⟩⟩
 case round =>
  obtain ⟨i, rfl, rfl, hq, hil, hB⟩ := hrel
  by_cases hi : i < n
  ·have hi1 : ((i : Int) < (n : Int)) = True := eq_true (by omega)
   have h0i : (0 ≤ (i : Int)) = True := eq_true (by omega)
   obtain ⟨ad, rfl, k1⟩ := at_mark (Kd.C_below h hB.out) i (by rw [mB_length]; exact hi)
   have eg : (mB k n)[i]'(by rw [mB_length]; exact hi) = decide ((k + i) % 3 = 0) := by simp [mB]
   rw [eg] at k1
   have hm : Int.tmod ((k + i : Nat) : Int) 3 = (((k + i) % 3 : Nat) : Int) := rfl
   have hz : decide ((((k + i) % 3 : Nat) : Int) = 0) = decide ((k + i) % 3 = 0) := by rw [decide_eq_decide]; omega
   have hz3 : (((k : Int) + (i : Int)) % 3 == 0) = decide ((k + i) % 3 = 0) := by
    rw [← Int.natCast_add]
    exact hz
   have hkw : wrap64 (((k + i : Nat) : Int) + 1) = ((k + (i + 1) : Nat) : Int) := by unfold wrap64; omega
   have hB2 := Aside0.mk hB.out
   clear eg
   generalize decide ((k + i) % 3 = 0) = mb at *
   have hmb : (mb != mb) = false := by cases mb <;> rfl
   have hmb3 : ((!mb) == mb) = false := by cases mb <;> rfl
   go_wp2_with fail
   go_roundg (n - (i + 1))
   case measure => have := hq.out; omega
   case rel => exact ⟨i + 1, (by first | rfl | (rw [← hkw]; rfl)), (by go_num), ⟨by simp⟩, by omega, hB2⟩
  ·have hi1 : ((i : Int) < (n : Int)) = False := eq_false (by omega)
   have he : i = n := by omega
   subst he
   go_wp2_with fail
   go_ret
   exact ⟨rfl, hB.out⟩
set_option maxHeartbeats 2000000 in
theorem heldN (k n : Nat) (A : Option Addr) (c : Nat) (w : World) (h : Kd.C (Kd.int .i64) w A n (mN k n)) (hk : k + n ≤ 1000000000) :
  Calls Tryd.prog 78 #[.slice A n c, .int .i64 (k : Int)] w fun e w' => e = .returned (.int .i64 ((k + n : Nat) : Int)) ∧ Below w.heap.size w w' := by
 go_enter Tryd.func78, Tryd.ntmps78
 go_wp2_with fail
 go_loopg [1, 5] n (fun kq v1 v5 W => ∃ i : Nat, v1 = .int .i64 ((k + i : Nat) : Int) ∧ v5 = .int .i64 (i : Int) ∧ Aside0 (kq = n - i) ∧ i ≤ n ∧ Aside0 (Below w.heap.size w W))
 case atStart => exact ⟨0, rfl, rfl, ⟨rfl⟩, Nat.zero_le _, ⟨Below.refl _ _⟩⟩
 case round =>
  obtain ⟨i, rfl, rfl, hq, hil, hB⟩ := hrel
  by_cases hi : i < n
  ·have hi1 : ((i : Int) < (n : Int)) = True := eq_true (by omega)
   have h0i : (0 ≤ (i : Int)) = True := eq_true (by omega)
   obtain ⟨ad, rfl, k1⟩ := at_num (Kd.C_below h hB.out) i (by rw [mN_length]; exact hi)
   have eg : (mN k n)[i]'(by rw [mN_length]; exact hi) = ((k + i : Nat) : Int) := by simp [mN]
   rw [eg] at k1
   have hkw : wrap64 (((k + i : Nat) : Int) + 1) = ((k + (i + 1) : Nat) : Int) := by unfold wrap64; omega
   have hB2 := Aside0.mk hB.out
   clear eg
   go_wp2_with fail
   go_roundg (n - (i + 1))
   case measure => have := hq.out; omega
   case rel => exact ⟨i + 1, (by first | rfl | (rw [← hkw]; rfl)), (by go_num), ⟨by simp⟩, by omega, hB2⟩
  ·have hi1 : ((i : Int) < (n : Int)) = False := eq_false (by omega)
   have he : i = n := by omega
   subst he
   go_wp2_with fail
   go_ret
   exact ⟨rfl, hB.out⟩
set_option maxHeartbeats 2000000 in
theorem heldR (k : Nat) (A : Option Addr) (c : Nat) (xs : List (List Int)) (w : World) (h : Kd.C Row w A xs.length (mR k xs)) (hl0 : xs.length ≤ 2000000) (hk : k + tot xs ≤ 1000000000) :
  Calls Tryd.prog 37 #[.slice A xs.length c, .int .i64 (k : Int)] w fun e w' => e = .returned (.int .i64 ((k + tot xs : Nat) : Int)) ∧ Below w.heap.size w w' := by
 go_enter Tryd.func37, Tryd.ntmps37
 go_wp2_with fail
 go_loopg [1, 5] xs.length (fun kq v1 v5 W => ∃ i : Nat, v1 = .int .i64 ((k + tot (xs.take i) : Nat) : Int) ∧ v5 = .int .i64 (i : Int) ∧ Aside0 (kq = xs.length - i) ∧ i ≤ xs.length ∧ Aside0 (Below w.heap.size w W))
 case atStart => exact ⟨0, rfl, rfl, ⟨rfl⟩, Nat.zero_le _, ⟨Below.refl _ _⟩⟩
 case round =>
  obtain ⟨i, rfl, rfl, hq, hil, hB⟩ := hrel
  by_cases hi : i < xs.length
  ·have hi1 : ((i : Int) < (xs.length : Int)) = True := eq_true (by omega)
   have h0i : (0 ≤ (i : Int)) = True := eq_true (by omega)
   obtain ⟨ad, rfl, A9, c9, e9, hl9, hC9⟩ := at_row (Kd.C_below h hB.out) i (by rw [mR_length]; exact hi)
   rw [mR_get k hi] at e9 hC9
   rw [mN_length] at e9 hC9
   have ht1 := tot_take hi
   have ht2 := tot_le xs (i + 1)
   obtain ⟨T, hT⟩ : ∃ T, k + tot (xs.take i) = T := ⟨_, rfl⟩
   obtain ⟨m, hm⟩ : ∃ m, xs[i].length = m := ⟨_, rfl⟩
   have hT2 : k + tot (xs.take (i + 1)) = T + m := by rw [ht1, hm]; omega
   have hTl : T + m ≤ 1000000000 := by omega
   have hTq := Aside0.mk hT2
   rw [hT, hm] at hC9
   rw [hm] at e9
   have hB2 := Aside0.mk hB.out
   have hCq := Aside0.mk hC9
   have h0T : ((((T + m : Nat) : Int)) < 0) = False := eq_false (by omega)
   clear ht1 ht2 hm hT2 hl9 hC9
   rw [hT]
   clear hT
   go_wp2_with (go_at_call 78; go_loud (
    with_reducible refine (heldN T m A9 c9 wr hCq.out hTl).mono ?_
    rintro e w5 ⟨rfl, hb5⟩
    have hB5 := Aside0.mk (below_step hB2.out hb5)))
   go_roundg (xs.length - (i + 1))
   case measure => have := hq.out; omega
   case rel => exact ⟨i + 1, (by have := hTq.out; congr 1; omega), (by go_num), ⟨by simp⟩, by omega, hB5⟩
  ·have hi1 : ((i : Int) < (xs.length : Int)) = False := eq_false (by omega)
   have he : i = xs.length := by omega
   subst he
   rw [List.take_length]
   go_wp2_with fail
   go_ret
   exact ⟨rfl, hB.out⟩
/-! ### a relation -/
/-- A relation whose rows are its own. -/
structure Rel (w : World) (base : Nat) (ok : Nat → Prop) (A2 : Option Addr) (c2 : Nat) (a : List Bool) (A3 : Option Addr) (c3 : Nat) (b : List (List Int)) : Prop where
 r2 : Kd.R Kd.bool 4 w base ok (.slice A2 a.length c2) a
 r3 : Kd.S Row 75 w base ok (.slice A3 b.length c3) b
section
variable {w W : World} {base : Nat} {ok : Nat → Prop} {A2 A3 : Option Addr} {c2 c3 : Nat} {a : List Bool} {b : List (List Int)}
theorem Rel.step (h : Rel w base ok A2 c2 a A3 c3 b) (hm : ∀ k, ok k → k < w.heap.size → W.heap[k]? = w.heap[k]?) : Rel W base ok A2 c2 a A3 c3 b := ⟨Kd.R_step h.r2 hm, Kd.S_step h.r3 hm⟩
theorem Rel.below (h : Rel w base ok A2 c2 a A3 c3 b) (hb : Below w.heap.size w W) : Rel W base ok A2 c2 a A3 c3 b := h.step (fun k _ hk => hb.block k hk)
theorem Rel.bound (h : Rel w base ok A2 c2 a A3 c3 b) : Rel w base (fun k => ok k ∧ base ≤ k ∧ k < w.heap.size) A2 c2 a A3 c3 b :=
 ⟨Kd.R_mono (Kd.R_bound h.r2) (fun k hk => ⟨hk.1, hk.2.1, hk.2.2.1⟩), Kd.S_mono (Kd.S_bound h.r3) (fun k hk => ⟨hk.1, hk.2.1, hk.2.2.1⟩)⟩
theorem Rel.mono {ok' : Nat → Prop} (h : Rel w base ok A2 c2 a A3 c3 b) (hk : ∀ k, ok k → ok' k) : Rel w base ok' A2 c2 a A3 c3 b := ⟨Kd.R_mono h.r2 hk, Kd.S_mono h.r3 hk⟩
end
set_option maxHeartbeats 2000000 in
theorem markRel (k : Nat) (t s : Int) (A2 : Option Addr) (c2 : Nat) (a : List Bool) (A3 : Option Addr) (c3 : Nat) (b : List (List Int)) (w : World) (base : Nat) (ok : Nat → Prop) (hle : base ≤ w.heap.size) (h : Rel w base ok A2 c2 a A3 c3 b) (hl : b.length ≤ 2000000) (hk : k + a.length + tot b ≤ 1000000000) :
  Calls Tryd.prog 11 #[.agg #[.int .i64 t, .int .i64 s, .slice A2 a.length c2, .slice A3 b.length c3], .int .i64 (k : Int)] w fun e w' => e = .returned (.int .i64 ((k + a.length + tot b : Nat) : Int)) ∧ Rel w' base ok A2 c2 (mB k a.length) A3 c3 (mR (k + a.length) b) ∧ KeepS base w w' ok := by
 have hP := blk_new w (.cells #[.int .i64 t, .int .i64 s, .slice A2 a.length c2, .slice A3 b.length c3] 27)
 have hb1 : Below w.heap.size w (w.alloc (.cells #[.int .i64 t, .int .i64 s, .slice A2 a.length c2, .slice A3 b.length c3] 27)) := below_alloc (Below.refl _ _) _
 have h1 := h.below hb1
 have hb := h.bound
 have m2 : (w.alloc (.cells #[.int .i64 t, .int .i64 s, .slice A2 a.length c2, .slice A3 b.length c3] 27)).cell? ⟨w.heap.size, 2, none⟩ = some (.slice A2 a.length c2) := (blk_cell hP 2).trans rfl
 have r2 : Kd.R Kd.bool 4 (w.alloc (.cells #[.int .i64 t, .int .i64 s, .slice A2 a.length c2, .slice A3 b.length c3] 27)) base (fun k => ok k ∧ k < w.heap.size) (.slice A2 a.length c2) a := Kd.R_mono (Kd.R_step (w1 := (w.alloc (.cells #[.int .i64 t, .int .i64 s, .slice A2 a.length c2, .slice A3 b.length c3] 27))) hb.r2 (fun k _ hk => hb1.block k hk)) (fun k hk => ⟨hk.1, hk.2.2⟩)
 have r3 : Kd.S Row 75 (w.alloc (.cells #[.int .i64 t, .int .i64 s, .slice A2 a.length c2, .slice A3 b.length c3] 27)) base (fun k => ok k ∧ k < w.heap.size) (.slice A3 b.length c3) b := Kd.S_mono (Kd.S_step (w1 := (w.alloc (.cells #[.int .i64 t, .int .i64 s, .slice A2 a.length c2, .slice A3 b.length c3] 27))) hb.r3 (fun k _ hk => hb1.block k hk)) (fun k hk => ⟨hk.1, hk.2.2⟩)
 have hty := Kd.R_typed r2
 have r3q := Aside0.mk (Kd.S_apart' r3 hty (by decide))
 have r2q := Aside0.mk r2
 have hPq := Aside0.mk hP
 have hbq := Aside0.mk hb1
 clear h h1 hb r2 r3 hty hP hb1
 obtain ⟨T, hT⟩ : ∃ T, k + a.length = T := ⟨_, rfl⟩
 obtain ⟨U, hU⟩ : ∃ U, T + tot b = U := ⟨_, rfl⟩
 have hTq := Aside0.mk hT
 have hUq := Aside0.mk hU
 have hkq := Aside0.mk hk
 rw [hT, hU]
 clear hT hU hk
 go_enter Tryd.func11, Tryd.ntmps11
 go_wp2_with (first
  | (go_at_call 34; go_loud (
    have q := markB k A2 c2 a _ base _ (Nat.le_trans hle (Below.size hbq.out)) r2q.out (by have := hkq.out; omega)
    rw [hTq.out] at q
    with_reducible refine q.mono ?_
    rintro e w2 ⟨rfl, hR2, hK2⟩
    have hP2 : w2.heap[w.heap.size]? = _ := (hK2.blk _ (blk_lt hPq.out) (fun e => by have := (r2q.out.1 _ e.symm).2; omega)).trans hPq.out
    have m3 : w2.cell? ⟨w.heap.size, 3, none⟩ = some (.slice A3 b.length c3) := (blk_cell hP2 3).trans rfl
    have hS2 := Kd.S_step (w1 := w2) r3q.out (fun k hk hlt => hK2.blk k hlt (fun e => hk.2 e))
    have hS2b := Kd.S_bound hS2
    have hR2q := Aside0.mk hR2
    have hS2q := Aside0.mk hS2b
    have hK2q := Aside0.mk hK2
    clear hS2 hS2b hR2 hK2 hP2))
  | (go_at_call 35; go_loud (
    have q := markR T A3 c3 b _ base _ (Nat.le_trans (Nat.le_trans hle (Below.size hbq.out)) hK2q.out.size) hS2q.out hl (by have := hkq.out; have := hTq.out; omega)
    rw [hUq.out] at q
    with_reducible refine q.mono ?_
    rintro e w3 ⟨rfl, hS3, hK3⟩
    have hS3q := Aside0.mk hS3
    have hK3q := Aside0.mk hK3
    clear hS3 hK3)))
 go_ret
 refine ⟨rfl, ⟨?_, ?_⟩, ?_⟩
 ·rw [mB_length]
  refine Kd.R_mono (Kd.R_step (w1 := w3) (Kd.R_bound hR2q.out) (fun k hk hlt => hK3q.out.blk k hlt (fun e => ?_))) (fun k hk => hk.1.1)
  obtain ⟨_, _, _, q, hq, cells, hc⟩ := hk
  obtain ⟨_, _, _, q', hq', cells', hc'⟩ := e
  rw [hc] at hc'
  injection hc' with hc'
  injection hc' with _ hc'
  exact (show ∀ a ∈ 4 :: Kd.bool.E, ∀ b ∈ 75 :: Row.E, a ≠ b by decide) q hq q' hq' hc'
 ·rw [mR_length]
  exact Kd.S_mono hS3q.out (fun k hk => hk.1.1.1)
 ·have h1 : KeepS base w (w.alloc (.cells #[.int .i64 t, .int .i64 s, .slice A2 a.length c2, .slice A3 b.length c3] 27)) ok := (KeepS.refl w ok hle).below hbq.out
  have h2 : KeepS base w w2 ok := h1.trans hK2q.out (Nat.le_refl _) (fun k hk => .inl (r2q.out.1 k hk.symm).1)
  exact h2.trans hK3q.out (Nat.le_refl _) (fun k hk => .inl hk.1.1.1)
set_option maxHeartbeats 2000000 in
theorem heldRel (k n : Nat) (t s : Int) (A2 : Option Addr) (c2 : Nat) (A3 : Option Addr) (c3 : Nat) (b : List (List Int)) (w : World) (h2 : Kd.C Kd.bool w A2 n (mB k n)) (h3 : Kd.C Row w A3 b.length (mR (k + n) b)) (hl : b.length ≤ 2000000) (hk : k + n + tot b ≤ 1000000000) :
  Calls Tryd.prog 12 #[.agg #[.int .i64 t, .int .i64 s, .slice A2 n c2, .slice A3 b.length c3], .int .i64 (k : Int)] w fun e w' => e = .returned (.int .i64 ((k + n + tot b : Nat) : Int)) ∧ Below w.heap.size w w' := by
 have hP := blk_new w (.cells #[.int .i64 t, .int .i64 s, .slice A2 n c2, .slice A3 b.length c3] 27)
 have hb1 : Below w.heap.size w (w.alloc (.cells #[.int .i64 t, .int .i64 s, .slice A2 n c2, .slice A3 b.length c3] 27)) := below_alloc (Below.refl _ _) _
 have m2 := (blk_cell hP 2).trans (rfl : _ = some (Value.slice A2 n c2))
 have g2 := Kd.C_below h2 hb1
 have z1 : ((((k + n : Nat) : Int)) < 0) = False := eq_false (by omega)
 have z2 : ((((k + n + tot b : Nat) : Int)) < 0) = False := eq_false (by omega)
 obtain ⟨T, hT⟩ : ∃ T, k + n = T := ⟨_, rfl⟩
 obtain ⟨U, hU⟩ : ∃ U, T + tot b = U := ⟨_, rfl⟩
 rw [hT] at z1 z2 h3 ⊢
 rw [hU] at z2 ⊢
 have hTq := Aside0.mk hT
 have hUq := Aside0.mk hU
 have hkq := Aside0.mk hk
 clear hT hU hk
 go_enter Tryd.func12, Tryd.ntmps12
 go_wp2_with (first
  | (go_at_call 36; go_loud (
    have q := heldB k n A2 c2 _ g2 (by have := hkq.out; omega)
    rw [hTq.out] at q
    with_reducible refine q.mono ?_
    rintro e w2 ⟨rfl, hb2⟩
    have m3 : w2.cell? ⟨w.heap.size, 3, none⟩ = some (.slice A3 b.length c3) := (blk_cell (blk_below hP hb2) 3).trans rfl
    have hB2 := below_step hb1 hb2))
  | (go_at_call 37; go_loud (
    have q := heldR T A3 c3 b _ (Kd.C_below h3 hB2) hl (by have := hkq.out; have := hTq.out; omega)
    rw [hUq.out] at q
    with_reducible refine q.mono ?_
    rintro e w3 ⟨rfl, hb3⟩
    have hB3 := below_step hB2 hb3)))
 go_ret
 exact ⟨rfl, hB3⟩
end Go.Proofs.YtnjdkhnepmmfgaaDoor.Mk
namespace Go.Proofs.YtnjdkhnepmmfgaaDoor.Ro
set_option linter.unusedVariables false
set_option linter.unusedSimpArgs false
open Go.RowKit Go.Proofs.YtnjdkhnepmmfgaaDoorW.PrintWords Go.Proofs.YtnjdkhnepmmfgaaDoorW.PrintLast Go.Proofs.YtnjdkhnepmmfgaaDoorW.PrintMore Mp Kp Mg Mk
theorem info_longs : (Tryd.prog.info? 75).map (fun i => (i.zero, i.size, i.bytes)) = some (some (.slice none 0 0), 1, 24) := by kernel_rfl
theorem info_long1 : (Tryd.prog.info? 2).map (fun i => (i.zero, i.size, i.bytes)) = some (some (.int .i64 0), 1, 8) := by kernel_rfl
theorem S_off {α : Type} {d : Kd α} {e : Nat} {W W' : World} {base : Nat} {ok : Nat → Prop} {v : Value} {xs : List α} {x : Option Nat} (h : Kd.S d e W base ok v xs) (hk : Keep W W' x) (ho : Off W x (e :: d.E)) : Kd.S d e W' base ok v xs :=
 Kd.S_mono (Kd.S_step (w1 := W') (Kd.S_bound h) (fun k hk' hlt => hk.blk k hlt (fun he => by
  obtain ⟨_, _, _, q, hq, cells, hc⟩ := hk'
  exact ho k he.symm cells q hq hc))) (fun _ hk => hk.1)
set_option maxHeartbeats 2000000 in
set_option maxRecDepth 100000 in
theorem asLongs (A : Option Addr) (c : Nat) (xs : List Int) (w : World) (hC : Kd.C (Kd.int .i64) w A xs.length xs) (hl : xs.length ≤ 1000000) :
  Calls Tryd.prog 111 #[.slice A xs.length c] w fun e w' => ∃ v, e = .returned v ∧ Kd.R (Kd.int .i64) 2 w' w.heap.size (fun _ => True) v xs ∧ Below w.heap.size w w' := by
 go_enter Tryd.func111, Tryd.ntmps111
 go_wp2_with fail
 go_loopg [3, 8] xs.length (fun kq v3 v8 W => ∃ (i : Nat) (Ar : Option Addr) (cr : Nat), v3 = .slice Ar i cr ∧ v8 = .int .i64 (i : Int) ∧ Aside0 (kq = xs.length - i) ∧ i ≤ xs.length ∧ Aside0 (Kd.R (Kd.int .i64) 2 W w.heap.size (fun _ => True) (.slice Ar i cr) (xs.take i)) ∧ Aside0 (Below w.heap.size w W))
 case atStart => exact ⟨0, none, 0, rfl, rfl, ⟨rfl⟩, Nat.zero_le _, ⟨Kd.R_nil _ _ _ _ _⟩, ⟨Below.refl _ _⟩⟩
 case round =>
  obtain ⟨i, Ar, cr, rfl, rfl, hq, hil, hR, hB⟩ := hrel
  by_cases hi : i < xs.length
  ·have hi1 : ((i : Int) < (xs.length : Int)) = True := eq_true (by omega)
   have h0i : (0 ≤ (i : Int)) = True := eq_true (by omega)
   obtain ⟨ad, rfl, k1⟩ := at_num (Kd.C_below hC hB.out) i hi
   have htk := Aside0.mk (List.take_succ_eq_append_getElem hi)
   have htl : Aside0 ((xs.take i).length = i) := ⟨by rw [List.length_take]; omega⟩
   generalize xs[i] = y at *
   go_wp2_with ((with_reducible refine gate_builtin (b := .append) (xs := #[.tmp 12, .tmp 14]) rfl ?_); go_loud (at_builtin; refine R_append' (Kd.int .i64) (w0 := w) w.heap.size rfl (.tmp 12) (.tmp 14) 75 2 (.int .i64 0) 8 rfl Tryd.underlying75 info_long1 rfl (by decide) (by decide) (.slice Ar i cr) (xs.take i) y [.int .i64 y] (fun _ => True) (fun _ => False) _ (by simp) rfl rfl rfl (fun _ h => h.elim) (fun _ _ => trivial) hR.out hB.out (Below.size hB.out) (by have := htl.out; omega) ?_; intro v6 w6 hR6 hb6 hg6 hat6; obtain ⟨A6, c6, hv6⟩ := Kd.R_slice hR6; have ev : (xs.take i ++ [y]).length = i + 1 := (by rw [List.length_append, htl.out]; rfl); rw [ev] at hv6; subst hv6))
   go_roundg (xs.length - (i + 1))
   case measure => have := hq.out; omega
   case rel => exact ⟨i + 1, A6, c6, rfl, (by go_num), ⟨by simp⟩, by omega, ⟨by rw [htk.out]; exact hR6⟩, ⟨hb6⟩⟩
  ·have hi1 : ((i : Int) < (xs.length : Int)) = False := eq_false (by omega)
   have he : i = xs.length := by omega
   subst he
   have hR2 := hR.out
   rw [List.take_length] at hR2
   go_wp2_with fail
   go_ret
   exact ⟨_, rfl, hR2, hB.out⟩
/-- The machine that is read, and the result's cell. -/
structure Pr (w0 : World) (t : Int) (AA : Option Addr) (na ca : Nat) (AN : Option Addr) (nn cn : Nat) (W : World) : Prop where
 bP : W.heap[w0.heap.size]? = some (.cells #[.int .i64 t, .int .i64 0, .slice AA na ca, .slice AN nn cn] 66 (0, 0))
 bR : W.heap[w0.heap.size + 1]? = some (.cells #[.int .i64 0, .int .i64 0, .slice none 0 0, .slice none 0 0] 27 (0, 0))
 bel : Below w0.heap.size w0 W
section
variable {w0 : World} {t : Int} {AA : Option Addr} {na ca : Nat} {AN : Option Addr} {nn cn : Nat} {W W' : World}
theorem Pr.step (h : Pr w0 t AA na ca AN nn cn W) (hb : Below W.heap.size W W') : Pr w0 t AA na ca AN nn cn W' := ⟨blk_below h.bP hb, blk_below h.bR hb, below_step h.bel hb⟩
theorem Pr.lt (h : Pr w0 t AA na ca AN nn cn W) : w0.heap.size + 1 < W.heap.size := blk_lt h.bR
end
/-- .. and the relation that is made. -/
structure Mr (w0 : World) (t : Int) (AA : Option Addr) (na ca : Nat) (AN : Option Addr) (nn cn : Nat) (gl : Nat) (vA : Value) (bs : List Bool) (vN : Value) (rws : List (List Int)) (W : World) : Prop where
 p : Pr w0 t AA na ca AN nn cn W
 bV : W.heap[gl]? = some (.cells #[.int .i64 t, .int .i64 0, vA, vN] 27 (0, 0))
 acc : Kd.R Kd.bool 4 W w0.heap.size (fun _ => True) vA bs
 nxt : Kd.S Row 75 W w0.heap.size (fun _ => True) vN rws
section
variable {w0 : World} {t : Int} {AA : Option Addr} {na ca : Nat} {AN : Option Addr} {nn cn gl : Nat} {vA vN : Value} {bs : List Bool} {rws : List (List Int)} {W W' : World}
theorem Mr.step (h : Mr w0 t AA na ca AN nn cn gl vA bs vN rws W) (hb : Below W.heap.size W W') : Mr w0 t AA na ca AN nn cn gl vA bs vN rws W' := ⟨h.p.step hb, blk_below h.bV hb, Kd.R_below h.acc hb, Kd.S_below h.nxt hb⟩
/-- The row is put behind the others. -/
theorem Mr.push {v1 : Value} {rws' : List (List Int)} (h : Mr w0 t AA na ca AN nn cn gl vA bs vN rws W) (hg : W.grownBy W' vN.ownBlock) (hR : Kd.S Row 75 W' w0.heap.size (fun _ => True) v1 rws') (hb : Below w0.heap.size w0 W') (hgl : w0.heap.size + 1 < gl) :
  W'.heap[gl]? = some (.cells #[.int .i64 t, .int .i64 0, vA, vN] 27 (0, 0)) ∧ Mr w0 t AA na ca AN nn cn gl vA bs v1 rws' (W'.setCell ⟨gl, 3, none⟩ v1) := by
 have hk := Keep.grown hg
 have o : ∀ E : List Nat, (∀ q ∈ E, q ≠ 75) → Off W vN.ownBlock E := fun E hE => Off.row (Kd.S_R h.nxt) hE
 have bV := hk.obj h.bV (off_ne h.bV (o _ (by decide)))
 refine ⟨bV, ?_⟩
 have hs := Keep.set W' ⟨gl, 3, none⟩ v1
 have p : ∀ E : List Nat, (∀ q ∈ E, q ≠ 27) → Off W' (some gl) E := fun E hE => Off.cells bV hE
 have n0 : some w0.heap.size ≠ some gl := fun e => by injection e; omega
 have n1 : some (w0.heap.size + 1) ≠ some gl := fun e => by injection e; omega
 exact ⟨⟨hs.obj (hk.obj h.p.bP (off_ne h.p.bP (o _ (by decide)))) n0, hs.obj (hk.obj h.p.bR (off_ne h.p.bR (o _ (by decide)))) n1, hb.setCell (p := ⟨gl, 3, none⟩) (by simp only; omega) v1⟩, blk_put bV 3 v1 rfl, R_off (R_off h.acc hk (o _ (by decide))) hs (p _ (by decide)), S_off hR hs (p _ (by decide))⟩
end
set_option maxHeartbeats 8000000 in
set_option maxRecDepth 100000 in
theorem relationOf (t : Int) (accs : List Bool) (rows : List (List Int)) (h0 : 0 < accs.length) (hn : accs.length ≤ 150) (hn2 : rows.length ≤ 1000000) (hn3 : ∀ r ∈ rows, r.length ≤ 1000000) (w : World) (AA : Option Addr) (ca : Nat) (AN : Option Addr) (cn : Nat) (hA : Kd.C Kd.bool w AA accs.length accs) (hN : Kd.C (Kd.slice 3 (Kd.int .i64)) w AN rows.length rows) :
  Calls Tryd.prog 95 #[.agg #[.int .i64 t, .int .i64 0, .slice AA accs.length ca, .slice AN rows.length cn]] w fun e w' => ∃ A2 c2 A3 c3, e = .returned (.tuple #[.agg #[.int .i64 t, .int .i64 0, .slice A2 accs.length c2, .slice A3 rows.length c3], .int .i64 0]) ∧ Rel w' w.heap.size (fun _ => True) A2 c2 accs A3 c3 rows ∧ Below w.heap.size w w' := by
 have hP : Pr w t AA accs.length ca AN rows.length cn ((w.alloc (.cells #[.int .i64 t, .int .i64 0, .slice AA accs.length ca, .slice AN rows.length cn] 66)).alloc (.cells #[.int .i64 0, .int .i64 0, .slice none 0 0, .slice none 0 0] 27)) :=
  ⟨blk_alloc (blk_new _ _) _, blk_at _ _ _ (by simp), below_alloc (below_alloc (Below.refl _ _) _) _⟩
 have k2 : ((w.alloc (.cells #[.int .i64 t, .int .i64 0, .slice AA accs.length ca, .slice AN rows.length cn] 66)).alloc (.cells #[.int .i64 0, .int .i64 0, .slice none 0 0, .slice none 0 0] 27)).cell? ⟨w.heap.size, 2, none⟩ = some (.slice AA accs.length ca) := (blk_cell hP.bP 2).trans rfl
 have hlt0 : ((150 : Int) < (accs.length : Int)) = False := eq_false (by omega)
 go_enter Tryd.func95, Tryd.ntmps95
 go_wp2
 clear k2 hlt0
 have hPd := hP.step (below_drew1 (Below.refl _ _))
 clear hP
 generalize hwd : (w.alloc (.cells #[.int .i64 t, .int .i64 0, .slice AA accs.length ca, .slice AN rows.length cn] 66)).alloc (.cells #[.int .i64 0, .int .i64 0, .slice none 0 0, .slice none 0 0] 27) = wd at *
 have hSS : ∀ W', Pr w t AA accs.length ca AN rows.length cn W' → (fun w' => w'.cell? ⟨w.heap.size, 0, none⟩ = some (.int .i64 t) ∧ w'.cell? ⟨w.heap.size, 1, none⟩ = some (.int .i64 0) ∧ w'.cell? ⟨w.heap.size, 2, none⟩ = some (.slice AA accs.length ca)) W' := fun W' h => ⟨(blk_cell h.bP 0).trans rfl, (blk_cell h.bP 1).trans rfl, (blk_cell h.bP 2).trans rfl⟩
 refine start_ (n := 10) (S := fun w' => w'.cell? ⟨w.heap.size, 0, none⟩ = some (.int .i64 t) ∧ w'.cell? ⟨w.heap.size, 1, none⟩ = some (.int .i64 0) ∧ w'.cell? ⟨w.heap.size, 2, none⟩ = some (.slice AA accs.length ca)) (ds := [9]) (.replicate 10 false) (by kernel_rfl) rfl rfl (hSS _ hPd) (fun hHeld => ?_)
 refine pure_ (i := 0) (N := some 12) (v := ?_) (a' := ?_) (zb 10 1) rfl rfl (by kernel_rfl) (fun _ _ _ h => h) (Or.inl ⟨by rfl, ?_⟩) ?_ ?_
 rotate_left
 ·intro w'
  go_simp
  with_reducible rfl
 rotate_left
 ·simp only [Act.put, Za, Zb, Zc, i64_w, i32_w]
  rfl
 refine pure_ (i := 2) (N := some 14) (v := ?_) (a' := ?_) (zb 10 5) rfl rfl (by kernel_rfl) (fun _ _ _ h => h) (Or.inl ⟨by rfl, ?_⟩) ?_ ?_
 rotate_left
 ·intro w'
  go_simp
  with_reducible rfl
 rotate_left
 ·simp only [Act.put, Za, Zb, Zc, i64_w, i32_w]
  rfl
 refine pure_ (i := 4) (N := some 16) (v := ?_) (a' := ?_) (zb 10 21) rfl rfl (by kernel_rfl) (fun _ _ _ h => h) (Or.inl ⟨by rfl, ?_⟩) ?_ ?_
 rotate_left
 ·intro w'
  go_simp
  with_reducible rfl
 rotate_left
 ·simp only [Act.put, Za, Zb, Zc, i64_w, i32_w]
  rfl
 refine take_ (i := 1) (N := some 13) (v := ?_) (a' := ?_) (zb 10 23) rfl rfl (by kernel_rfl) (fun _ _ _ h => h) (Or.inl ⟨by rfl, ?_⟩) hHeld ?_ ?_
 rotate_left
 ·rintro w' ⟨s1, s2, s3⟩
  go_simp
  with_reducible rfl
 rotate_left
 ·simp only [Act.put, Za, Zb, Zc, i64_w, i32_w]
  rfl
 refine take_ (i := 3) (N := some 15) (v := ?_) (a' := ?_) (zb 10 31) rfl rfl (by kernel_rfl) (fun _ _ _ h => h) (Or.inl ⟨by rfl, ?_⟩) hHeld ?_ ?_
 rotate_left
 ·rintro w' ⟨s1, s2, s3⟩
  go_simp
  with_reducible rfl
 rotate_left
 ·simp only [Act.put, Za, Zb, Zc, i64_w, i32_w]
  rfl
 refine take_ (i := 5) (N := some 17) (v := ?_) (a' := ?_) (zb 10 63) rfl rfl (by kernel_rfl) (fun _ _ _ h => h) (Or.inl ⟨by rfl, ?_⟩) hHeld ?_ ?_
 rotate_left
 ·rintro w' ⟨s1, s2, s3⟩
  go_simp
  with_reducible rfl
 rotate_left
 ·simp only [Act.put, Za, Zb, Zc, i64_w, i32_w]
  rfl
 refine join_ (σ := Value × Nat) 1 #[true, true, true, true, true, true, true, true, true, false] (fun s => [(18, s.1), (19, .agg #[.int .i64 t, .int .i64 0, s.1, .slice none 0 0]), (4, .pointer (some ⟨s.2, 0, none⟩))])
  (fun s w' => Pr w t AA accs.length ca AN rows.length cn w' ∧ Kd.R Kd.bool 4 w' w.heap.size (fun _ => True) s.1 accs ∧ w'.heap[s.2]? = some (.cells #[.int .i64 0, .int .i64 0, .slice none 0 0, .slice none 0 0] 27 (0, 0)) ∧ w.heap.size + 1 < s.2) ?_ ?_
 rotate_left
 ·intro hCont
  refine two_ (i := 6) (j := 8) (Ni := some 18) (Nj := some 4) #[true, true, true, true, true, true, true, false, false, false] #[true, true, true, true, true, true, false, false, true, false] rfl rfl rfl rfl (by kernel_rfl) (by decide) (by decide) (fun K hK => ?_) (fun K hK => ?_)
  ·skip
   refine goes_ Tryd.func101 (by kernel_rfl) rfl #[.slice AA accs.length ca] (by rfl) rfl rfl (by (try simp only [List.map_toArray, List.map_cons, List.map_nil]); first | done | rfl) ?_
   with_reducible refine (Mo.clone _ AA ca accs h0 (by omega) (Kd.C_below hA hPd.bel)).mono ?_
   rintro e w6 ⟨vA, rfl, r1, hb6⟩
   refine ⟨_, rfl, ?_⟩
   have h6 := hPd.step hb6
   have q1 := Kd.R_lower r1 (Below.size hPd.bel)
   obtain ⟨A1, c1, rfl⟩ := Kd.R_slice q1
   refine hK.out _ _ (hSS _ h6) (fun hHeld => ?_)
   clear hK K
   refine norm_ (a' := ?_) ?_ ?_
   rotate_left
   ·show Act.put _ (some 18) _ = _
    simp only [Act.put, Za, Zb, Zc, i64_w, i32_w]
    rfl
   refine pure_ (i := 7) (N := some 19) (v := ?_) (a' := ?_) (zb 10 255) rfl rfl (by kernel_rfl) (fun _ _ _ h => h) (Or.inl ⟨by rfl, ?_⟩) ?_ ?_
   rotate_left
   ·intro w'
    go_simp
    with_reducible rfl
   rotate_left
   ·simp only [Act.put, Za, Zb, Zc, i64_w, i32_w]
    rfl
   refine one_ (i := 8) (N := some 4) (zb 10 511) rfl rfl (by kernel_rfl) (by decide) (fun K hK => ?_)
   refine value_ (w1 := w6.alloc (.cells #[.int .i64 0, .int .i64 0, .slice none 0 0, .slice none 0 0] 27)) (v := .pointer (some ⟨w6.heap.size, 0, none⟩)) (by rfl) rfl (by first | (go_simp; done) | (go_simp; rfl)) ?_
   have h7 := h6.step (below_alloc (Below.refl _ _) (.cells #[.int .i64 0, .int .i64 0, .slice none 0 0, .slice none 0 0] 27))
   refine hK.out _ _ (hSS _ h7) (fun hHeld => ?_)
   clear hK K
   refine norm_ (a' := ?_) ?_ ?_
   rotate_left
   ·show Act.put _ (some 4) _ = _
    simp only [Act.put, Za, Zb, Zc, i64_w, i32_w]
    rfl
   exact norm_ (by simp only [putAll, Act.put, List.setIfInBounds_toArray, List.set_cons_zero, List.set_cons_succ]) (hCont (.slice A1 accs.length c1, w6.heap.size) _ ⟨h7, Kd.R_below q1 (below_alloc (Below.refl _ _) _), blk_new _ _, h6.lt⟩)
  ·skip
   refine value_ (w1 := wd.drew.alloc (.cells #[.int .i64 0, .int .i64 0, .slice none 0 0, .slice none 0 0] 27)) (v := .pointer (some ⟨wd.drew.heap.size, 0, none⟩)) (by rfl) rfl (by first | (go_simp; done) | (go_simp; rfl)) ?_
   have h6 := hPd.step (below_alloc (Below.refl _ _) (.cells #[.int .i64 0, .int .i64 0, .slice none 0 0, .slice none 0 0] 27))
   refine hK.out _ _ (hSS _ h6) (fun hHeld => ?_)
   clear hK K
   refine norm_ (a' := ?_) ?_ ?_
   rotate_left
   ·show Act.put _ (some 4) _ = _
    simp only [Act.put, Za, Zb, Zc, i64_w, i32_w]
    rfl
   refine one_ (i := 6) (N := some 18) (zb 10 383) rfl rfl (by kernel_rfl) (by decide) (fun K hK => ?_)
   refine goes_ Tryd.func101 (by kernel_rfl) rfl #[.slice AA accs.length ca] (by rfl) rfl rfl (by (try simp only [List.map_toArray, List.map_cons, List.map_nil]); first | done | rfl) ?_
   with_reducible refine (Mo.clone _ AA ca accs h0 (by omega) (Kd.C_below hA h6.bel)).mono ?_
   rintro e w7 ⟨vA, rfl, r1, hb6⟩
   refine ⟨_, rfl, ?_⟩
   have h7 := h6.step hb6
   have q1 := Kd.R_lower r1 (Below.size h6.bel)
   obtain ⟨A1, c1, rfl⟩ := Kd.R_slice q1
   refine hK.out _ _ (hSS _ h7) (fun hHeld => ?_)
   clear hK K
   refine norm_ (a' := ?_) ?_ ?_
   rotate_left
   ·show Act.put _ (some 18) _ = _
    simp only [Act.put, Za, Zb, Zc, i64_w, i32_w]
    rfl
   refine pure_ (i := 7) (N := some 19) (v := ?_) (a' := ?_) (zb 10 511) rfl rfl (by kernel_rfl) (fun _ _ _ h => h) (Or.inl ⟨by rfl, ?_⟩) ?_ ?_
   rotate_left
   ·intro w'
    go_simp
    with_reducible rfl
   rotate_left
   ·simp only [Act.put, Za, Zb, Zc, i64_w, i32_w]
    rfl
   exact norm_ (by simp only [putAll, Act.put, List.setIfInBounds_toArray, List.set_cons_zero, List.set_cons_succ]) (hCont (.slice A1 accs.length c1, wd.drew.heap.size) _ ⟨h7, q1, blk_below (blk_new _ _) hb6, hPd.lt⟩)
 rintro ⟨vA, gl⟩ w8 ⟨h8, r1, b0, hgl⟩
 dsimp only at r1 b0 hgl ⊢
 obtain ⟨A1, c1, rfl⟩ := Kd.R_slice r1
 refine norm_ (a' := ?_) ?_ ?_
 rotate_left
 ·simp only [putAll, Act.put, List.setIfInBounds_toArray, List.set_cons_zero, List.set_cons_succ, i64_w, i32_w]
  rfl
 have e0 : w8.cell? ⟨gl, 0, none⟩ = some (.int .i64 0) := (blk_cell b0 0).trans rfl
 have f0 : w8.frozen? ⟨gl, 0, none⟩ = false := blk_frozen b0 0
 have e1 : w8.cell? ⟨gl, 1, none⟩ = some (.int .i64 0) := (blk_cell b0 1).trans rfl
 have f1 : w8.frozen? ⟨gl, 1, none⟩ = false := blk_frozen b0 1
 have e2 : w8.cell? ⟨gl, 2, none⟩ = some (.slice none 0 0) := (blk_cell b0 2).trans rfl
 have f2 : w8.frozen? ⟨gl, 2, none⟩ = false := blk_frozen b0 2
 have e3 : w8.cell? ⟨gl, 3, none⟩ = some (.slice none 0 0) := (blk_cell b0 3).trans rfl
 have f3 : w8.frozen? ⟨gl, 3, none⟩ = false := blk_frozen b0 3
 refine last_ (i := 9) (N := none) (zb 10 1023) rfl rfl (by kernel_rfl) (by decide) (fun K hK => ?_)
 refine skip_ (w1 := (((w8.setCell ⟨gl, 0, none⟩ (.int .i64 t)).setCell ⟨gl, 1, none⟩ (.int .i64 0)).setCell ⟨gl, 2, none⟩ (.slice A1 accs.length c1)).setCell ⟨gl, 3, none⟩ (.slice none 0 0)) (by rfl) rfl (by first | (go_simp; done) | (go_simp; rfl)) ?_
 refine hK.out _ _ ?_
 clear hK K
 refine done_ (by kernel_rfl) ?_
 have hgg : w.heap.size ≤ gl := by omega
 have n0 : some w.heap.size ≠ some gl := fun e => by injection e; omega
 have n1 : some (w.heap.size + 1) ≠ some gl := fun e => by injection e; omega
 have b1 := blk_put b0 0 (.int .i64 t) rfl
 have b2 := blk_put b1 1 (.int .i64 0) rfl
 have b3 := blk_put b2 2 (.slice A1 accs.length c1) rfl
 have b4 := blk_put b3 3 (.slice none 0 0) rfl
 have q1 := Kd.R_set (Kd.R_set (Kd.R_set (Kd.R_set r1 b0 (by decide) 0 (.int .i64 t)) b1 (by decide) 1 (.int .i64 0)) b2 (by decide) 2 (.slice A1 accs.length c1)) b3 (by decide) 3 (.slice none 0 0)
 have hB := (((h8.bel.setCell (p := ⟨gl, 0, none⟩) hgg (.int .i64 t)).setCell (p := ⟨gl, 1, none⟩) hgg (.int .i64 0)).setCell (p := ⟨gl, 2, none⟩) hgg (.slice A1 accs.length c1)).setCell (p := ⟨gl, 3, none⟩) hgg (.slice none 0 0)
 have bP := (Keep.set _ ⟨gl, 3, none⟩ (.slice none 0 0)).obj ((Keep.set _ ⟨gl, 2, none⟩ (.slice A1 accs.length c1)).obj ((Keep.set _ ⟨gl, 1, none⟩ (.int .i64 0)).obj ((Keep.set _ ⟨gl, 0, none⟩ (.int .i64 t)).obj h8.bP n0) n0) n0) n0
 have bR := (Keep.set _ ⟨gl, 3, none⟩ (.slice none 0 0)).obj ((Keep.set _ ⟨gl, 2, none⟩ (.slice A1 accs.length c1)).obj ((Keep.set _ ⟨gl, 1, none⟩ (.int .i64 0)).obj ((Keep.set _ ⟨gl, 0, none⟩ (.int .i64 t)).obj h8.bR n1) n1) n1) n1
 clear b0 b1 b2 b3 r1 e0 e1 e2 e3 f0 f1 f2 f3 h8 hSS hPd n0 n1
 generalize ((((w8.setCell ⟨gl, 0, none⟩ (.int .i64 t)).setCell ⟨gl, 1, none⟩ (.int .i64 0)).setCell ⟨gl, 2, none⟩ (.slice A1 accs.length c1)).setCell ⟨gl, 3, none⟩ (.slice none 0 0)) = w9 at *
 have hM : Mr w t AA accs.length ca AN rows.length cn gl (.slice A1 accs.length c1) accs (.slice none 0 0) [] w9 := ⟨⟨bP, bR, hB⟩, b4, q1, Kd.S_nil _ _ _ _ _⟩
 have c3 : w9.cell? ⟨w.heap.size, 3, none⟩ = some (.slice AN rows.length cn) := (blk_cell bP 3).trans rfl
 clear bP bR hB b4 q1
 go_wp2
 clear c3
 go_loopg [23] rows.length (fun kq v23 wr => ∃ (i : Nat) (A2 : Option Addr) (c2 : Nat), v23 = .int .i64 (i : Int) ∧ Aside0 (kq = rows.length - i) ∧ i ≤ rows.length ∧ Aside0 (Mr w t AA accs.length ca AN rows.length cn gl (.slice A1 accs.length c1) accs (.slice A2 i c2) (rows.take i) wr))
 case atStart => exact ⟨0, none, 0, rfl, ⟨by simp⟩, Nat.zero_le _, ⟨hM⟩⟩
 case round =>
  clear hM
  obtain ⟨wo, rfl⟩ : ∃ wo : World, wo = wr := ⟨_, rfl⟩
  obtain ⟨i, A2, c2, rfl, hkq, hil, hM⟩ := hrel
  replace hM := hM.out
  by_cases hlt : i < rows.length
  ·obtain ⟨ad, rfl, A', c', k1, k2, k3⟩ := at_row (Kd.C_below hN hM.p.bel) i hlt
   have hrl : rows[i].length ≤ 1000000 := hn3 _ (List.getElem_mem hlt)
   have htk2 := Aside0.mk (List.take_succ_eq_append_getElem hlt)
   have hil2 : Aside0 ((rows.take i).length = i) := ⟨by rw [List.length_take]; omega⟩
   generalize rows[i] = ri at *
   have hlt1 : ((i : Int) < (rows.length : Int)) = True := eq_true (by omega)
   have h0i : (0 ≤ (i : Int)) = True := eq_true (by omega)
   go_wp2_with fail
   have h3 := hM.step (below_drew1 (Below.refl _ _))
   refine start_ (n := 8) (S := fun w' => w'.cell? ⟨gl, 3, none⟩ = some (.slice A2 i c2)) (ds := [7]) (.replicate 8 false) (by kernel_rfl) rfl rfl ((blk_cell h3.bV 3).trans rfl) (fun hHeld => ?_)
   refine pure_ (i := 0) (N := some 27) (v := ?_) (a' := ?_) (zb 8 1) rfl rfl (by kernel_rfl) (fun _ _ _ h => h) (Or.inl ⟨by rfl, ?_⟩) ?_ ?_
   rotate_left
   ·intro w'
    go_simp
    with_reducible rfl
   rotate_left
   ·simp only [Act.put, Za, Zb, Zc, i64_w, i32_w]
    rfl
   refine pure_ (i := 2) (N := some 29) (v := ?_) (a' := ?_) (zb 8 5) rfl rfl (by kernel_rfl) (fun _ _ _ h => h) (Or.inl ⟨by rfl, ?_⟩) ?_ ?_
   rotate_left
   ·intro w'
    go_simp
    with_reducible rfl
   rotate_left
   ·simp only [Act.put, Za, Zb, Zc, i64_w, i32_w]
    rfl
   refine take_ (i := 1) (N := some 28) (v := ?_) (a' := ?_) (zb 8 7) rfl rfl (by kernel_rfl) (fun _ _ _ h => h) (Or.inl ⟨by rfl, ?_⟩) hHeld ?_ ?_
   rotate_left
   ·rintro w' s0
    go_simp
    with_reducible rfl
   rotate_left
   ·simp only [Act.put, Za, Zb, Zc, i64_w, i32_w]
    rfl
   refine one_ (i := 3) (N := some 30) (zb 8 15) rfl rfl (by kernel_rfl) (by decide) (fun K hK => ?_)
   refine goes_ Tryd.func111 (by kernel_rfl) rfl #[.slice A' ri.length c'] (by rfl) rfl rfl (by (try simp only [List.map_toArray, List.map_cons, List.map_nil]); first | done | rfl) ?_
   with_reducible refine (asLongs A' c' ri _ (Kd.C_below k3 (below_drew1 (Below.refl _ _))) hrl).mono ?_
   rintro e w4 ⟨v4, rfl, r4, hb4⟩
   obtain ⟨A4, c4, e4⟩ := Kd.R_slice r4
   subst e4
   refine ⟨_, rfl, ?_⟩
   have h4 := h3.step hb4
   refine hK.out _ _ ((blk_cell h4.bV 3).trans rfl) (fun hHeld => ?_)
   clear hK K
   refine norm_ (a' := ?_) ?_ ?_
   rotate_left
   ·show Act.put _ (some 30) _ = _
    simp only [Act.put, Za, Zb, Zc, i64_w, i32_w]
    rfl
   refine one_ (i := 4) (N := some 31) (zb 8 31) rfl rfl (by kernel_rfl) (by decide) (fun K hK => ?_)
   refine value_ (w1 := w4.alloc (.cells #[.slice A4 ri.length c4] 75)) (v := .slice (some ⟨w4.heap.size, 0, none⟩) 1 1) (by rfl) rfl (by first | (go_simp; done) | (go_simp; rfl)) ?_
   have h5 := h4.step (below_alloc (Below.refl _ _) (.cells #[.slice A4 ri.length c4] 75))
   refine hK.out _ _ ((blk_cell h5.bV 3).trans rfl) (fun hHeld => ?_)
   clear hK K
   refine norm_ (a' := ?_) ?_ ?_
   rotate_left
   ·show Act.put _ (some 31) _ = _
    simp only [Act.put, Za, Zb, Zc, i64_w, i32_w]
    rfl
   refine one_ (i := 5) (N := some 32) (zb 8 63) rfl rfl (by kernel_rfl) (by decide) (fun K hK => ?_)
   refine Kd.S_append_step Row (w0 := w) w.heap.size (by rfl) (.tmp 28) (.tmp 31) 23 75 (.slice none 0 0) 24 rfl Tryd.underlying23 info_longs rfl (by decide) (by decide) (.slice A2 i c2) (rows.take i) ri [.slice A4 ri.length c4] (fun _ => True) (fun k => wo.heap.size ≤ k ∧ some k ≠ (Value.slice A2 i c2).ownBlock) rfl rfl
    (Kd.M_row (Kd.R_mono (Kd.R_lower (Kd.R_bound r4) (Below.size h3.p.bel)) (fun k hk => ⟨hk.2.1, fun e => by have := Kd.S_lt hM.nxt k e.symm; have h2 : wo.heap.size ≤ k := hk.2.1; omega⟩))) (fun k hk => ⟨trivial, hk.2⟩) (fun _ _ => trivial)
    (Kd.S_mono (Kd.S_below (Kd.S_mono (Kd.S_bound hM.nxt) (ok' := fun k => True ∧ k < wo.heap.size) (fun k hk => ⟨trivial, hk.2.2.1⟩)) (below_step (below_drew1 (Below.refl _ _)) hb4)) (fun k hk => ⟨trivial, fun h => by have := h.1; have := hk.2; omega⟩)) h4.p.bel (Below.size h4.p.bel) (by have := hil2.out; omega) ?_
   intro v6 w6 hR6 hb6 hg6 hat6
   obtain ⟨A6, c6, hv6⟩ := Kd.S_slice hR6
   have ev6 : (rows.take i ++ [ri]).length = i + 1 := by rw [List.length_append, hil2.out]; rfl
   rw [ev6] at hv6
   subst hv6
   obtain ⟨b8, h9⟩ := h4.push hg6 hR6 hb6 hgl
   refine hK.out _ _ ((blk_cell b8 3).trans rfl) (fun hHeld => ?_)
   clear hK K
   refine norm_ (a' := ?_) ?_ ?_
   rotate_left
   ·show Act.put _ (some 32) _ = _
    simp only [Act.put, Za, Zb, Zc, i64_w, i32_w]
    rfl
   refine pure_ (i := 6) (N := some 33) (v := ?_) (a' := ?_) (zb 8 127) rfl rfl (by kernel_rfl) (fun _ _ _ h => h) (Or.inl ⟨by rfl, ?_⟩) ?_ ?_
   rotate_left
   ·intro w'
    go_simp
    with_reducible rfl
   rotate_left
   ·simp only [Act.put, Za, Zb, Zc, i64_w, i32_w]
    rfl
   have c83 : w6.cell? ⟨gl, 3, none⟩ = some (.slice A2 i c2) := (blk_cell b8 3).trans rfl
   have f83 : w6.frozen? ⟨gl, 3, none⟩ = false := blk_frozen b8 3
   refine last_ (i := 7) (N := none) (zb 8 255) rfl rfl (by kernel_rfl) (by decide) (fun K hK => ?_)
   refine skip_ (w1 := w6.setCell ⟨gl, 3, none⟩ (.slice A6 (i + 1) c6)) (by rfl) rfl (by first | (go_simp; done) | (go_simp; rfl)) ?_
   refine hK.out _ _ ?_
   clear hK K
   refine done_ (by kernel_rfl) ?_
   clear h3 h4 h5 hHeld c83 f83 b8 hR6 hg6 hb6
   generalize w6.setCell ⟨gl, 3, none⟩ (.slice A6 (i + 1) c6) = w7 at h9 ⊢
   go_wp2_with fail
   go_roundg (rows.length - (i + 1))
   case measure => have := hkq.out; omega
   case rel => exact ⟨i + 1, A6, c6, (by go_num), ⟨by simp⟩, by omega, ⟨by rw [htk2.out]; exact h9⟩⟩
  ·have hii : i = rows.length := by omega
   subst i
   have hlt1 : ((rows.length : Int) < (rows.length : Int)) = False := eq_false (by omega)
   rw [List.take_length] at hM
   have bV := hM.bV
   have d0 : wo.cell? ⟨gl, 0, none⟩ = some (.int .i64 t) := (blk_cell bV 0).trans rfl
   have d1 : wo.cell? ⟨gl, 1, none⟩ = some (.int .i64 0) := (blk_cell bV 1).trans rfl
   have d2 : wo.cell? ⟨gl, 2, none⟩ = some (.slice A1 accs.length c1) := (blk_cell bV 2).trans rfl
   have d3 : wo.cell? ⟨gl, 3, none⟩ = some (.slice A2 rows.length c2) := (blk_cell bV 3).trans rfl
   have b := hM.p.bR
   have e0 : wo.cell? ⟨w.heap.size + 1, 0, none⟩ = some (.int .i64 0) := (blk_cell b 0).trans rfl
   have e1 : wo.cell? ⟨w.heap.size + 1, 1, none⟩ = some (.int .i64 0) := (blk_cell b 1).trans rfl
   have e2 : wo.cell? ⟨w.heap.size + 1, 2, none⟩ = some (.slice none 0 0) := (blk_cell b 2).trans rfl
   have e3 : wo.cell? ⟨w.heap.size + 1, 3, none⟩ = some (.slice none 0 0) := (blk_cell b 3).trans rfl
   have f0 : wo.frozen? ⟨w.heap.size + 1, 0, none⟩ = false := blk_frozen b 0
   have f1 : wo.frozen? ⟨w.heap.size + 1, 1, none⟩ = false := blk_frozen b 1
   have f2 : wo.frozen? ⟨w.heap.size + 1, 2, none⟩ = false := blk_frozen b 2
   have f3 : wo.frozen? ⟨w.heap.size + 1, 3, none⟩ = false := blk_frozen b 3
   go_wp2_with fail
   have b1 := blk_put b 0 (.int .i64 t) rfl
   have b2 := blk_put b1 1 (.int .i64 0) rfl
   have b3 := blk_put b2 2 (.slice A1 accs.length c1) rfl
   have b5 := blk_put b3 3 (.slice A2 rows.length c2) rfl
   refine bodyPost_ret (results_ct rfl _ _ (w.heap.size + 1) 27 #[.int .i64 t, .int .i64 0, .slice A1 accs.length c1, .slice A2 rows.length c2] (0, 0) _ rfl b5 Tryd.underlying27 rfl (by kernel_rfl)) rfl ⟨_, _, _, _, rfl, ⟨?_, ?_⟩, ?_⟩
   ·exact Kd.R_set (Kd.R_set (Kd.R_set (Kd.R_set hM.acc b (by decide) 0 _) b1 (by decide) 1 _) b2 (by decide) 2 _) b3 (by decide) 3 _
   ·exact Kd.S_set (Kd.S_set (Kd.S_set (Kd.S_set hM.nxt b (by decide) 0 _) b1 (by decide) 1 _) b2 (by decide) 2 _) b3 (by decide) 3 _
   ·exact (((hM.p.bel.setCell (by simp) _).setCell (by simp) _).setCell (by simp) _).setCell (by simp) _
set_option maxHeartbeats 4000000 in
/-- .. too many states. -/
theorem relationOf_big (t : Int) (na : Nat) (nn : Nat) (h0 : 150 < na) (w : World) (AA : Option Addr) (ca : Nat) (AN : Option Addr) (cn : Nat) :
  Calls Tryd.prog 95 #[.agg #[.int .i64 t, .int .i64 0, .slice AA na ca, .slice AN nn cn]] w fun e w' => e = .returned (.tuple #[.agg #[.int .i64 0, .int .i64 0, .slice none 0 0, .slice none 0 0], .int .i64 3]) ∧ Below w.heap.size w w' := by
 have bP := blk_alloc (blk_new w (.cells #[.int .i64 t, .int .i64 0, .slice AA na ca, .slice AN nn cn] 66)) (.cells #[.int .i64 0, .int .i64 0, .slice none 0 0, .slice none 0 0] 27)
 have b : ((w.alloc (.cells #[.int .i64 t, .int .i64 0, .slice AA na ca, .slice AN nn cn] 66)).alloc (.cells #[.int .i64 0, .int .i64 0, .slice none 0 0, .slice none 0 0] 27)).heap[w.heap.size + 1]? = some (.cells #[.int .i64 0, .int .i64 0, .slice none 0 0, .slice none 0 0] 27 (0, 0)) := blk_at _ _ _ (by simp)
 have hB := below_alloc (below_alloc (Below.refl w.heap.size w) (.cells #[.int .i64 t, .int .i64 0, .slice AA na ca, .slice AN nn cn] 66)) (.cells #[.int .i64 0, .int .i64 0, .slice none 0 0, .slice none 0 0] 27)
 have hlt0 : ((150 : Int) < (na : Int)) = True := eq_true (by omega)
 go_enter Tryd.func95, Tryd.ntmps95
 generalize hwx : (w.alloc (.cells #[.int .i64 t, .int .i64 0, .slice AA na ca, .slice AN nn cn] 66)).alloc (.cells #[.int .i64 0, .int .i64 0, .slice none 0 0, .slice none 0 0] 27) = wx at *
 have k2 : wx.cell? ⟨w.heap.size, 2, none⟩ = some (.slice AA na ca) := (blk_cell bP 2).trans rfl
 have e0 : wx.cell? ⟨w.heap.size + 1, 0, none⟩ = some (.int .i64 0) := (blk_cell b 0).trans rfl
 have e1 : wx.cell? ⟨w.heap.size + 1, 1, none⟩ = some (.int .i64 0) := (blk_cell b 1).trans rfl
 have e2 : wx.cell? ⟨w.heap.size + 1, 2, none⟩ = some (.slice none 0 0) := (blk_cell b 2).trans rfl
 have e3 : wx.cell? ⟨w.heap.size + 1, 3, none⟩ = some (.slice none 0 0) := (blk_cell b 3).trans rfl
 have f0 : wx.frozen? ⟨w.heap.size + 1, 0, none⟩ = false := blk_frozen b 0
 have f1 : wx.frozen? ⟨w.heap.size + 1, 1, none⟩ = false := blk_frozen b 1
 have f2 : wx.frozen? ⟨w.heap.size + 1, 2, none⟩ = false := blk_frozen b 2
 have f3 : wx.frozen? ⟨w.heap.size + 1, 3, none⟩ = false := blk_frozen b 3
 go_wp2
 have b1 := blk_put b 0 (.int .i64 0) rfl
 have b2 := blk_put b1 1 (.int .i64 0) rfl
 have b3 := blk_put b2 2 (.slice none 0 0) rfl
 have b5 := blk_put b3 3 (.slice none 0 0) rfl
 refine bodyPost_ret (results_ct rfl _ _ (w.heap.size + 1) 27 #[.int .i64 0, .int .i64 0, .slice none 0 0, .slice none 0 0] (0, 0) _ rfl b5 Tryd.underlying27 rfl (by kernel_rfl)) rfl ⟨rfl, ?_⟩
 repeat (first | exact hB | (refine Below.setCell ?_ (by simp) _))
end Go.Proofs.YtnjdkhnepmmfgaaDoor.Ro
namespace Go.Proofs.YtnjdkhnepmmfgaaDoor.Rg
set_option linter.unusedVariables false
set_option linter.unusedSimpArgs false
open Go.RowKit Go.Proofs.YtnjdkhnepmmfgaaDoorW.PrintWords Go.Proofs.YtnjdkhnepmmfgaaDoorW.PrintLast Go.Proofs.YtnjdkhnepmmfgaaDoorW.PrintMore Mp Kp Mg
/-! ### plain -/
/-- The table of what has been met: x's place in the list, or -1. -/
structure Tab (N : Nat) (li : List Nat) (tab : List Int) : Prop where
 len : tab.length = N
 at_ : ∀ x, x < N → (tab[x]? = some (-1) ∧ x ∉ li) ∨ ∃ j : Nat, tab[x]? = some (j : Int) ∧ li[j]? = some x
 lt : ∀ x ∈ li, x < N
 nodup : li.Nodup
theorem get_app {α : Type} {l : List α} {j : Nat} {x : α} (m : List α) (h : l[j]? = some x) : (l ++ m)[j]? = some x := by
 obtain ⟨hj, _⟩ := List.getElem?_eq_some_iff.1 h
 rw [List.getElem?_append_left hj]
 exact h
theorem Tab.push {N : Nat} {li : List Nat} {tab : List Int} (h : Tab N li tab) {x : Nat} (hx : x < N) (hn : x ∉ li) : Tab N (li ++ [x]) (tab.set x (li.length : Int)) := by
 refine ⟨by rw [List.length_set]; exact h.len, fun y hy => ?_, fun y hy => ?_, ?_⟩
 ·by_cases e : y = x
  ·subst e
   refine .inr ⟨li.length, ?_, by simp⟩
   rw [List.getElem?_set_self (by rw [h.len]; exact hy)]
  ·rw [List.getElem?_set_ne (fun e' => e e'.symm)]
   rcases h.at_ y hy with ⟨h1, h2⟩ | ⟨j, h1, h2⟩
   ·exact .inl ⟨h1, fun hm => (List.mem_append.1 hm).elim h2 (fun h3 => e (List.mem_singleton.1 h3))⟩
   ·exact .inr ⟨j, h1, get_app _ h2⟩
 ·rcases List.mem_append.1 hy with h1 | h1
  ·exact h.lt y h1
  ·rw [List.mem_singleton.1 h1]; exact hx
 ·rw [List.nodup_append]
  refine ⟨h.nodup, by simp, fun a ha b hb e => ?_⟩
  rw [List.mem_singleton.1 hb] at e
  exact hn (e ▸ ha)
theorem Tab.le {N : Nat} {li : List Nat} {tab : List Int} (h : Tab N li tab) : li.length ≤ N := by
 have := Go.Proofs.YtnjdkhnepmmfgaaDoor.Tdy.nodup_le (l := li) (m := List.range N) h.nodup (fun x hx => List.mem_range.2 (h.lt x hx))
 simpa using this
/-- What a row says: -1, or the place of the next one. -/
def RowOk (nx : Nat → Nat → Option Nat) (li : List Nat) (x : Nat) (r : List Int) : Prop :=
 ∀ c, c < r.length → (nx x c = none ∧ r[c]? = some (-1)) ∨ ∃ t j : Nat, nx x c = some t ∧ r[c]? = some (j : Int) ∧ li[j]? = some t
theorem RowOk.grow {nx : Nat → Nat → Option Nat} {li : List Nat} {x : Nat} {r : List Int} (h : RowOk nx li x r) (m : List Nat) : RowOk nx (li ++ m) x r := fun c hc => by
 rcases h c hc with h | ⟨t, j, h1, h2, h3⟩
 ·exact .inl h
 ·exact .inr ⟨t, j, h1, h2, get_app m h3⟩
theorem RowOk.none {nx : Nat → Nat → Option Nat} {li : List Nat} {x : Nat} {r : List Int} (h : RowOk nx li x r) (hx : nx x r.length = none) : RowOk nx li x (r ++ [-1]) := fun c hc => by
 by_cases e : c = r.length
 ·subst e
  exact .inl ⟨hx, by simp⟩
 ·have hc' : c < r.length := by rw [List.length_append, List.length_singleton] at hc; omega
  rcases h c hc' with ⟨h1, h2⟩ | ⟨t, j, h1, h2, h3⟩
  ·exact .inl ⟨h1, get_app _ h2⟩
  ·exact .inr ⟨t, j, h1, get_app _ h2, h3⟩
theorem RowOk.some {nx : Nat → Nat → Option Nat} {li : List Nat} {x t j : Nat} {r : List Int} (h : RowOk nx li x r) (hx : nx x r.length = Option.some t) (hj : li[j]? = Option.some t) : RowOk nx li x (r ++ [(j : Int)]) := fun c hc => by
 by_cases e : c = r.length
 ·subst e
  exact .inr ⟨t, j, hx, by simp, hj⟩
 ·have hc' : c < r.length := by rw [List.length_append, List.length_singleton] at hc; omega
  rcases h c hc' with ⟨h1, h2⟩ | ⟨t', j', h1, h2, h3⟩
  ·exact .inl ⟨h1, get_app _ h2⟩
  ·exact .inr ⟨t', j', h1, get_app _ h2, h3⟩
/-- Entries below 0 are the dead state's. -/
def fixE (L : Nat) (e : Int) : Int := if e < 0 then (L : Int) else e
def fixTo (L k : Nat) (rws : List (List Int)) : List (List Int) := (rws.take k).map (fun r => r.map (fixE L)) ++ rws.drop k
def rowTo (L c : Nat) (r : List Int) : List Int := (r.take c).map (fixE L) ++ r.drop c
theorem fixTo_get {L k : Nat} {rws : List (List Int)} {r : List Int} (h : rws[k]? = some r) : (fixTo L k rws)[k]? = some r := by
 obtain ⟨hk, e⟩ := List.getElem?_eq_some_iff.1 h
 unfold fixTo
 rw [List.getElem?_append_right (by simp; omega)]
 simp only [List.length_map, List.length_take, Nat.min_eq_left (Nat.le_of_lt hk), Nat.sub_self, List.getElem?_drop, Nat.add_zero]
 exact h
theorem fixTo_length {L k : Nat} {rws : List (List Int)} : (fixTo L k rws).length = rws.length := by
 unfold fixTo
 simp
 omega
theorem fixTo_set {L k : Nat} {rws : List (List Int)} {r : List Int} (h : rws[k]? = some r) : (fixTo L k rws).set k (r.map (fixE L)) = fixTo L (k + 1) rws := by
 obtain ⟨hk, e⟩ := List.getElem?_eq_some_iff.1 h
 unfold fixTo
 rw [List.set_append_right _ _ (by simp; omega)]
 simp only [List.length_map, List.length_take, Nat.min_eq_left (Nat.le_of_lt hk), Nat.sub_self]
 rw [List.drop_eq_getElem_cons hk, List.set_cons_zero, List.take_add_one, h, List.map_append, List.append_assoc]
 rfl
theorem rowTo_length {L c : Nat} {r : List Int} : (rowTo L c r).length = r.length := by
 unfold rowTo
 simp
 omega
theorem rowTo_step {L c : Nat} {r : List Int} (h : c < r.length) : rowTo L (c + 1) r = (rowTo L c r).set c (fixE L r[c]) := by
 unfold rowTo
 rw [List.set_append_right _ _ (by simp; omega)]
 simp only [List.length_map, List.length_take, Nat.min_eq_left (Nat.le_of_lt h), Nat.sub_self]
 rw [List.drop_eq_getElem_cons h, List.set_cons_zero, List.take_add_one, List.getElem?_eq_getElem h, List.map_append, List.append_assoc]
 rfl
theorem rowTo_get {L c : Nat} {r : List Int} (h : c < r.length) : (rowTo L c r)[c]'(by rw [rowTo_length]; exact h) = r[c] := by
 have e : (rowTo L c r)[c]? = some r[c] := by
  unfold rowTo
  rw [List.getElem?_append_right (by simp; omega)]
  simp only [List.length_map, List.length_take, Nat.min_eq_left (Nat.le_of_lt h), Nat.sub_self, List.getElem?_drop, Nat.add_zero]
  exact List.getElem?_eq_getElem h
 rw [List.getElem?_eq_getElem (by rw [rowTo_length]; exact h)] at e
 exact Option.some.inj e
theorem rowTo_same {L c : Nat} {r : List Int} (h : c < r.length) (h0 : 0 ≤ r[c]) : rowTo L (c + 1) r = rowTo L c r := by
 rw [rowTo_step h]
 have e : fixE L r[c] = r[c] := by unfold fixE; rw [if_neg (by omega)]
 rw [e]
 have h2 : c < (rowTo L c r).length := by rw [rowTo_length]; exact h
 refine List.ext_getElem (by simp) (fun j h3 h4 => ?_)
 by_cases ej : c = j
 ·subst ej
  rw [List.getElem_set_self, rowTo_get h]
 ·rw [List.getElem_set_ne ej]
theorem oks_step {nx : Nat → Nat → Option Nat} {li li2 m : List Nat} {rws : List (List Int)} {r : List Int} {x i : Nat} (hm : li2 = li ++ m) (hl : rws.length = i) (hi : i < li.length) (hx : li[i]? = some x) (hok : ∀ (k x : Nat) (r : List Int), li[k]? = some x → rws[k]? = some r → RowOk nx li x r) (hr : RowOk nx li2 x r) :
  ∀ (k x : Nat) (r' : List Int), li2[k]? = some x → (rws ++ [r])[k]? = some r' → RowOk nx li2 x r' := by
 intro k x' r' h1 h2
 by_cases hk : k < rws.length
 ·rw [List.getElem?_append_left hk] at h2
  rw [hm, List.getElem?_append_left (by omega)] at h1
  rw [hm]
  exact (hok k x' r' h1 h2).grow m
 ·have hk2 : k = rws.length := by
   have := (List.getElem?_eq_some_iff.1 h2).1
   rw [List.length_append, List.length_singleton] at this
   omega
  subst hk2
  rw [List.getElem?_append_right (Nat.le_refl _), Nat.sub_self] at h2
  rw [hl, hm, List.getElem?_append_left hi, hx] at h1
  cases h1
  cases h2
  exact hr
theorem take_step {li li2 m : List Nat} {x i : Nat} (hm : li2 = li ++ m) (hi : i < li.length) (hx : li[i]? = some x) : li2.take (i + 1) = li.take i ++ [x] := by
 have h2 : i < li2.length := by rw [hm, List.length_append]; omega
 have h3 : li2[i]? = some x := by rw [hm, List.getElem?_append_left hi]; exact hx
 rw [List.take_add_one, h3, hm, List.take_append_of_le_length (by omega)]
 rfl
/-! ### in memory -/
abbrev SR (W : World) (base : Nat) (v : Value) (xs : List Int) : Prop := (Kd.int .i64).R 2 W base (fun _ => True) v xs
def encH (n : Nat) (h : Nat × Nat) : Value := .slice (some ⟨h.1, 0, none⟩) n h.2
def hk (n : Nat) : Kd (Nat × Nat) := Kd.scalar (encH n) (fun _ => rfl)
theorem SR.move {W W' : World} {base : Nat} {v : Value} {xs : List Int} {y : Option Nat} (h : SR W base v xs) (hk : Keep W W' y) (hne : ∀ k, v.ownBlock = some k → some k ≠ y) : SR W' base v xs := by
 have h1 : (Kd.int .i64).R 2 W base (fun k => True ∧ some k ≠ y) v xs := Kd.R_of_own (Kd.own_of_R h) (fun k hk => ⟨trivial, hne k hk⟩)
 exact Kd.R_mono (R_apart h1 hk) (fun _ _ => trivial)
/-- What stands before the relation is made. -/
structure R0 (w0 : World) (gp : Nat) (par : Array Value) (vT : Value) (tab : List Int) (W : World) : Prop where
 bP : W.heap[gp]? = some (.cells par 27 (0, 0))
 bR : W.heap[w0.heap.size]? = some (.cells #[.int .i64 0, .int .i64 0, .slice none 0 0, .slice none 0 0] 27 (0, 0))
 tab : SR W w0.heap.size vT tab
 bel : Below w0.heap.size w0 W
theorem R0.set {w0 : World} {gp : Nat} {par : Array Value} {tab : List Int} {g n c : Nat} {W : World} (h : R0 w0 gp par (.slice (some ⟨g, 0, none⟩) n c) tab W) (hg : w0.heap.size ≤ g) (i : Nat) (x : Int) : R0 w0 gp par (.slice (some ⟨g, 0, none⟩) n c) (tab.set i x) (W.setCell ⟨g, i, none⟩ (.int .i64 x)) := by
 have hk := Keep.set W ⟨g, i, none⟩ (.int .i64 x)
 have hy : ∀ E : List Nat, (∀ q ∈ E, q ≠ 2) → Off W (some g) E := fun E hE => Off.row h.tab hE
 exact ⟨hk.obj h.bP (off_ne h.bP (hy _ (by decide))), hk.obj h.bR (off_ne h.bR (hy _ (by decide))), Kd.R_putn h.tab (i : Int) x, h.bel.setCell hg _⟩
theorem R0.step {w0 : World} {gp : Nat} {par : Array Value} {vT : Value} {tab : List Int} {W W' : World} (h : R0 w0 gp par vT tab W) (hb : Below W.heap.size W W') : R0 w0 gp par vT tab W' := ⟨blk_below h.bP hb, blk_below h.bR hb, Kd.R_below h.tab hb, below_step h.bel hb⟩
theorem sr_at {W : World} {base b n c i : Nat} {l : List Int} (h : SR W base (.slice (some ⟨b, 0, none⟩) n c) l) (hi : i < l.length) : W.cell? ⟨b, i, none⟩ = some (.int .i64 l[i]) := by
 obtain ⟨_, _, hC⟩ := Kd.R_reads' h
 obtain ⟨ad, e1, k1⟩ := at_num hC i hi
 cases e1
 have ea : (⟨b, 0, none⟩ : Addr).add i = ⟨b, i, none⟩ := by
  by_cases h0 : i = 0
  ·subst h0; rfl
  ·simp [Addr.add, h0]
 rw [ea] at k1
 exact k1
theorem sr_at' {W : World} {base n c i : Nat} {A : Option Addr} {l : List Int} (h : SR W base (.slice A n c) l) (hi : i < l.length) : ∃ ad, A = some ad ∧ W.cell? (ad.add i) = some (.int .i64 l[i]) := by
 obtain ⟨_, _, hC⟩ := Kd.R_reads' h
 exact at_num hC i hi
theorem tab_start {N s0 : Nat} (h : s0 < N) : Tab N [s0] ((List.replicate N (-1 : Int)).set s0 0) := by
 have h0 : Tab N [] (List.replicate N (-1 : Int)) := ⟨by simp, fun x hx => .inl ⟨by simp [hx], by simp⟩, (fun x hx => by cases hx), List.nodup_nil⟩
 exact h0.push h (by simp)
theorem sr_zero (W : World) (base : Nat) (hb : base ≤ W.heap.size) : SR (W.alloc (.cells #[] 2)) base (.slice (some ⟨W.heap.size, 0, none⟩) 0 0) [] := by
 have h : (W.alloc (.cells #[] 2)).ownsRow base 2 1 (.slice (some ⟨W.heap.size, 0, none⟩) 0 0) 0 [] := by simpa using World.ownsRow_lit (base := base) (e := 2) (size := 1) W #[] 0 hb (by simp [maxLen]) (by simp)
 exact ⟨fun _ _ => trivial, [], h, Reps.none _ _⟩
theorem fill_step (n i : Nat) (hi : i < n) : (List.replicate i (-1 : Int) ++ List.replicate (n - i) 0).set i (-1) = List.replicate (i + 1) (-1) ++ List.replicate (n - (i + 1)) 0 := by
 have e3 : n - i = (n - (i + 1)) + 1 := by omega
 rw [e3, List.replicate_succ, List.set_append_right _ _ (by simp), List.length_replicate, Nat.sub_self, List.set_cons_zero, List.replicate_succ', List.append_assoc]
 rfl
/-- The relation that is made, the table, the list, the rows (each with its own block). -/
structure Rt (w0 : World) (gp : Nat) (par : Array Value) (tapes : Int) (gV : Nat) (vT : Value) (tab : List Int) (vL : Value) (li : List Int) (vA : Value) (bs : List Bool) (vN : Value) (hs : List (Nat × Nat)) (rws : List (List Int)) (wd : Nat) (W : World) : Prop where
 bP : W.heap[gp]? = some (.cells par 27 (0, 0))
 bR : W.heap[w0.heap.size]? = some (.cells #[.int .i64 0, .int .i64 0, .slice none 0 0, .slice none 0 0] 27 (0, 0))
 bV : W.heap[gV]? = some (.cells #[.int .i64 tapes, .int .i64 0, vA, vN] 27 (0, 0))
 tab : SR W w0.heap.size vT tab
 lst : SR W w0.heap.size vL li
 acc : Kd.R Kd.bool 4 W w0.heap.size (fun _ => True) vA bs
 out : Kd.R (hk wd) 75 W w0.heap.size (fun _ => True) vN hs
 inn : ∀ (i : Nat) (h : Nat × Nat) (r : List Int), hs[i]? = some h → rws[i]? = some r → SR W w0.heap.size (encH wd h) r
 far : ∀ h ∈ hs, some h.1 ≠ vT.ownBlock ∧ some h.1 ≠ vL.ownBlock
 sep : hs.Pairwise (fun a b => a.1 ≠ b.1)
 tl : ∀ k, vT.ownBlock = some k → some k ≠ vL.ownBlock
 len : hs.length = rws.length
 bel : Below w0.heap.size w0 W
section
variable {w0 : World} {gp : Nat} {par : Array Value} {tapes : Int} {gV : Nat} {vT : Value} {tab : List Int} {vL : Value} {li : List Int} {vA : Value} {bs : List Bool} {vN : Value} {hs : List (Nat × Nat)} {rws : List (List Int)} {wd : Nat} {W W' : World}
theorem Rt.step (h : Rt w0 gp par tapes gV vT tab vL li vA bs vN hs rws wd W) (hb : Below W.heap.size W W') : Rt w0 gp par tapes gV vT tab vL li vA bs vN hs rws wd W' :=
 ⟨blk_below h.bP hb, blk_below h.bR hb, blk_below h.bV hb, Kd.R_below h.tab hb, Kd.R_below h.lst hb, Kd.R_below h.acc hb, Kd.R_below h.out hb, fun i a r ha hr => Kd.R_below (h.inn i a r ha hr) hb, h.far, h.sep, h.tl, h.len, below_step h.bel hb⟩
theorem Rt.lt (h : Rt w0 gp par tapes gV vT tab vL li vA bs vN hs rws wd W) {a : Nat × Nat} (ha : a ∈ hs) (hl : hs.length = rws.length) : a.1 < W.heap.size := by
 obtain ⟨i, hi, rfl⟩ := List.getElem_of_mem ha
 exact Kd.R_lt (h.inn i hs[i] (rws[i]'(by omega)) (List.getElem?_eq_getElem hi) (List.getElem?_eq_getElem (by omega))) _ rfl
/-- A block of numbers other than these is written. -/
theorem Rt.keep (h : Rt w0 gp par tapes gV vT tab vL li vA bs vN hs rws wd W) {y : Option Nat} (hk : Keep W W' y) (hy : ∀ E : List Nat, (∀ q ∈ E, q ≠ 2) → Off W y E) (hT : ∀ k, vT.ownBlock = some k → some k ≠ y) (hL : ∀ k, vL.ownBlock = some k → some k ≠ y) (hI : ∀ a ∈ hs, some a.1 ≠ y) (hb : Below w0.heap.size w0 W') :
  Rt w0 gp par tapes gV vT tab vL li vA bs vN hs rws wd W' :=
 ⟨hk.obj h.bP (off_ne h.bP (hy _ (by decide))), hk.obj h.bR (off_ne h.bR (hy _ (by decide))), hk.obj h.bV (off_ne h.bV (hy _ (by decide))), h.tab.move hk hT, h.lst.move hk hL, R_off h.acc hk (hy _ (by decide)), R_off h.out hk (hy _ (by show ∀ q, q ∈ [75] → q ≠ _; decide)),
  fun i a r ha hr => (h.inn i a r ha hr).move hk (fun k e => by cases e; exact hI a (List.mem_of_getElem? ha)), h.far, h.sep, h.tl, h.len, hb⟩
/-- The table is written. -/
theorem Rt.set {g n c : Nat} (h : Rt w0 gp par tapes gV (.slice (some ⟨g, 0, none⟩) n c) tab vL li vA bs vN hs rws wd W) (hg : w0.heap.size ≤ g) (i : Nat) (x : Int) : Rt w0 gp par tapes gV (.slice (some ⟨g, 0, none⟩) n c) (tab.set i x) vL li vA bs vN hs rws wd (W.setCell ⟨g, i, none⟩ (.int .i64 x)) := by
 have hk := Keep.set W ⟨g, i, none⟩ (.int .i64 x)
 have hy : ∀ E : List Nat, (∀ q ∈ E, q ≠ 2) → Off W (some g) E := fun E hE => Off.row h.tab hE
 exact ⟨hk.obj h.bP (off_ne h.bP (hy _ (by decide))), hk.obj h.bR (off_ne h.bR (hy _ (by decide))), hk.obj h.bV (off_ne h.bV (hy _ (by decide))), Kd.R_putn h.tab (i : Int) x, h.lst.move hk (fun k e e2 => by cases e2; exact h.tl g rfl e.symm), R_off h.acc hk (hy _ (by decide)), R_off h.out hk (hy _ (by show ∀ q, q ∈ [75] → q ≠ _; decide)),
  fun j a r ha hr => (h.inn j a r ha hr).move hk (fun k e e2 => by cases e; exact (h.far a (List.mem_of_getElem? ha)).1 e2), h.far, h.sep, h.tl, h.len, h.bel.setCell hg _⟩
theorem ne_after {W : World} {v v1 : Value} {g : Nat} (hat : v1.ownBlock = v.ownBlock ∨ ∃ b, v1.ownBlock = some b ∧ W.heap.size ≤ b) (hg : g < W.heap.size) (hne : some g ≠ v.ownBlock) : some g ≠ v1.ownBlock := by
 rcases hat with e | ⟨b, e, hb⟩
 ·rw [e]; exact hne
 ·rw [e]
  intro e2
  cases e2
  omega
/-- Something is put behind the list. -/
theorem Rt.push {v1 : Value} {li' : List Int} (h : Rt w0 gp par tapes gV vT tab vL li vA bs vN hs rws wd W) (hg : W.grownBy W' vL.ownBlock) (hat : v1.ownBlock = vL.ownBlock ∨ ∃ b, v1.ownBlock = some b ∧ W.heap.size ≤ b) (hR : SR W' w0.heap.size v1 li') (hb : Below w0.heap.size w0 W') : Rt w0 gp par tapes gV vT tab v1 li' vA bs vN hs rws wd W' := by
 have hk := Keep.grown hg
 have hy : ∀ E : List Nat, (∀ q ∈ E, q ≠ 2) → Off W vL.ownBlock E := fun E hE => Off.row h.lst hE
 exact ⟨hk.obj h.bP (off_ne h.bP (hy _ (by decide))), hk.obj h.bR (off_ne h.bR (hy _ (by decide))), hk.obj h.bV (off_ne h.bV (hy _ (by decide))), h.tab.move hk h.tl, hR, R_off h.acc hk (hy _ (by decide)), R_off h.out hk (hy _ (by show ∀ q, q ∈ [75] → q ≠ _; decide)),
  fun i a r ha hr => (h.inn i a r ha hr).move hk (fun k e => by cases e; exact (h.far a (List.mem_of_getElem? ha)).2), fun a ha => ⟨(h.far a ha).1, ne_after hat (h.lt ha h.len) (h.far a ha).2⟩, h.sep, fun k hk => ne_after hat (Kd.R_lt h.tab k hk) (h.tl k hk), h.len, hb⟩
/-- A mark is put behind the marks. -/
theorem Rt.mark {v1 : Value} {bs' : List Bool} (h : Rt w0 gp par tapes gV vT tab vL li vA bs vN hs rws wd W) (hV : w0.heap.size < gV) (hp : gp ≠ gV) (hg : W.grownBy W' vA.ownBlock) (hR : Kd.R Kd.bool 4 W' w0.heap.size (fun _ => True) v1 bs') (hb : Below w0.heap.size w0 W') :
  W'.heap[gV]? = some (.cells #[.int .i64 tapes, .int .i64 0, vA, vN] 27 (0, 0)) ∧ Rt w0 gp par tapes gV vT tab vL li v1 bs' vN hs rws wd (W'.setCell ⟨gV, 2, none⟩ v1) := by
 have hk := Keep.grown hg
 have hy : ∀ E : List Nat, (∀ q ∈ E, q ≠ 4) → Off W vA.ownBlock E := fun E hE => Off.row h.acc hE
 have bV := hk.obj h.bV (off_ne h.bV (hy _ (by decide)))
 refine ⟨bV, ?_⟩
 have hs := Keep.set W' ⟨gV, 2, none⟩ v1
 have p : ∀ E : List Nat, (∀ q ∈ E, q ≠ 27) → Off W' (some gV) E := fun E hE => Off.cells bV hE
 have n0 : some w0.heap.size ≠ some gV := fun e => by injection e; omega
 have n1 : some gp ≠ some gV := fun e => by injection e; omega
 exact ⟨hs.obj (hk.obj h.bP (off_ne h.bP (hy _ (by decide)))) n1, hs.obj (hk.obj h.bR (off_ne h.bR (hy _ (by decide)))) n0, blk_put bV 2 v1 rfl, R_off (R_off h.tab hk (hy _ (by decide))) hs (p _ (by decide)), R_off (R_off h.lst hk (hy _ (by decide))) hs (p _ (by decide)), R_off hR hs (p _ (by decide)), R_off (R_off h.out hk (hy _ (by show ∀ q, q ∈ [75] → q ≠ _; decide))) hs (p _ (by show ∀ q, q ∈ [75] → q ≠ _; decide)),
  fun i a r ha hr => R_off (R_off (h.inn i a r ha hr) hk (hy _ (by decide))) hs (p _ (by decide)), h.far, h.sep, h.tl, h.len, hb.setCell (p := ⟨gV, 2, none⟩) (by simp only; omega) v1⟩
/-- A row is put behind the rows. -/
theorem Rt.row {v1 : Value} {a : Nat × Nat} {r : List Int} (h : Rt w0 gp par tapes gV vT tab vL li vA bs vN hs rws wd W) (hV : w0.heap.size < gV) (hp : gp ≠ gV) (hg : W.grownBy W' vN.ownBlock) (hR : Kd.R (hk wd) 75 W' w0.heap.size (fun _ => True) v1 (hs ++ [a])) (hb : Below w0.heap.size w0 W')
  (hr : SR W w0.heap.size (encH wd a) r) (hf : some a.1 ≠ vT.ownBlock ∧ some a.1 ≠ vL.ownBlock) (hi : ∀ b ∈ hs, b.1 ≠ a.1) :
  W'.heap[gV]? = some (.cells #[.int .i64 tapes, .int .i64 0, vA, vN] 27 (0, 0)) ∧ Rt w0 gp par tapes gV vT tab vL li vA bs v1 (hs ++ [a]) (rws ++ [r]) wd (W'.setCell ⟨gV, 3, none⟩ v1) := by
 have hk := Keep.grown hg
 have hy : ∀ E : List Nat, (∀ q ∈ E, q ≠ 75) → Off W vN.ownBlock E := fun E hE => Off.row h.out hE
 have bV := hk.obj h.bV (off_ne h.bV (hy _ (by decide)))
 refine ⟨bV, ?_⟩
 have hS := Keep.set W' ⟨gV, 3, none⟩ v1
 have p : ∀ E : List Nat, (∀ q ∈ E, q ≠ 27) → Off W' (some gV) E := fun E hE => Off.cells bV hE
 have n0 : some w0.heap.size ≠ some gV := fun e => by injection e; omega
 have n1 : some gp ≠ some gV := fun e => by injection e; omega
 have mv : ∀ {v : Value} {xs : List Int}, SR W w0.heap.size v xs → SR (W'.setCell ⟨gV, 3, none⟩ v1) w0.heap.size v xs := fun h => R_off (R_off h hk (hy _ (by decide))) hS (p _ (by decide))
 refine ⟨hS.obj (hk.obj h.bP (off_ne h.bP (hy _ (by decide)))) n1, hS.obj (hk.obj h.bR (off_ne h.bR (hy _ (by decide)))) n0, blk_put bV 3 v1 rfl, mv h.tab, mv h.lst, R_off (R_off h.acc hk (hy _ (by decide))) hS (p _ (by decide)), R_off hR hS (p _ (by show ∀ q, q ∈ [75] → q ≠ _; decide)), ?_, ?_, ?_, h.tl, by rw [List.length_append, List.length_append, h.len]; rfl, hb.setCell (p := ⟨gV, 3, none⟩) (by simp only; omega) v1⟩
 ·intro i b r' hb' hr'
  by_cases e : i < hs.length
  ·rw [List.getElem?_append_left e] at hb'
   rw [List.getElem?_append_left (by rw [← h.len]; exact e)] at hr'
   exact mv (h.inn i b r' hb' hr')
  ·have : i = hs.length := by
    have := (List.getElem?_eq_some_iff.1 hb').1
    rw [List.length_append, List.length_singleton] at this
    omega
   subst this
   rw [List.getElem?_append_right (Nat.le_refl _), Nat.sub_self] at hb'
   rw [h.len, List.getElem?_append_right (Nat.le_refl _), Nat.sub_self] at hr'
   cases hb'
   cases hr'
   exact mv hr
 ·intro b hb'
  rcases List.mem_append.1 hb' with hb' | hb'
  ·exact h.far b hb'
  ·rw [List.mem_singleton.1 hb']; exact hf
 ·rw [List.pairwise_append]
  exact ⟨h.sep, by simp, fun b hb' c hc => by rw [List.mem_singleton.1 hc]; exact hi b hb'⟩
/-- What a row that is being made keeps clear of. -/
def Clear (vr vT vL : Value) (hs : List (Nat × Nat)) : Prop := ∀ k, vr.ownBlock = some k → some k ≠ vT.ownBlock ∧ some k ≠ vL.ownBlock ∧ ∀ a ∈ hs, a.1 ≠ k
theorem Rt.app {vr v1 : Value} {r : List Int} (h : Rt w0 gp par tapes gV vT tab vL li vA bs vN hs rws wd W) (hr : SR W w0.heap.size vr r) (hf : Clear vr vT vL hs) (hg : W.grownBy W' vr.ownBlock) (hat : v1.ownBlock = vr.ownBlock ∨ ∃ b, v1.ownBlock = some b ∧ W.heap.size ≤ b) (hb : Below w0.heap.size w0 W') :
  Rt w0 gp par tapes gV vT tab vL li vA bs vN hs rws wd W' ∧ Clear v1 vT vL hs := by
 refine ⟨h.keep (Keep.grown hg) (fun E hE => Off.row hr hE) (fun k hk e => (hf k e.symm).1 hk.symm) (fun k hk e => (hf k e.symm).2.1 hk.symm) (fun a ha e => (hf a.1 e.symm).2.2 a ha rfl) hb, fun k hk => ?_⟩
 rcases hat with e | ⟨b, e, hbl⟩
 ·exact hf k (by rw [← e]; exact hk)
 ·rw [e] at hk
  cases hk
  exact ⟨fun e2 => by have := Kd.R_lt h.tab _ e2.symm; omega, fun e2 => by have := Kd.R_lt h.lst _ e2.symm; omega, fun a ha e2 => by have := h.lt ha h.len; omega⟩
theorem Clear.push {vr v1 : Value} {r : List Int} (hf : Clear vr vT vL hs) (hr : SR W w0.heap.size vr r) (hat : v1.ownBlock = vL.ownBlock ∨ ∃ b, v1.ownBlock = some b ∧ W.heap.size ≤ b) : Clear vr vT v1 hs := fun k hk =>
 ⟨(hf k hk).1, ne_after hat (Kd.R_lt hr k hk) (hf k hk).2.1, (hf k hk).2.2⟩
/-- An entry of row i is written. -/
theorem Rt.fix {i : Nat} {a : Nat × Nat} {r : List Int} (h : Rt w0 gp par tapes gV vT tab vL li vA bs vN hs rws wd W) (ha : hs[i]? = some a) (hr : rws[i]? = some r) (hg : w0.heap.size ≤ a.1) (c : Nat) (x : Int) : Rt w0 gp par tapes gV vT tab vL li vA bs vN hs (rws.set i (r.set c x)) wd (W.setCell ⟨a.1, c, none⟩ (.int .i64 x)) := by
 have hk := Keep.set W ⟨a.1, c, none⟩ (.int .i64 x)
 have hrow := h.inn i a r ha hr
 have hy : ∀ E : List Nat, (∀ q ∈ E, q ≠ 2) → Off W (some a.1) E := fun E hE => Off.row hrow hE
 have hm := List.mem_of_getElem? ha
 refine ⟨hk.obj h.bP (off_ne h.bP (hy _ (by decide))), hk.obj h.bR (off_ne h.bR (hy _ (by decide))), hk.obj h.bV (off_ne h.bV (hy _ (by decide))), h.tab.move hk (fun k e e2 => (h.far a hm).1 (by rw [e, ← e2])), h.lst.move hk (fun k e e2 => (h.far a hm).2 (by rw [e, ← e2])), R_off h.acc hk (hy _ (by decide)), R_off h.out hk (hy _ (by show ∀ q, q ∈ [75] → q ≠ _; decide)), ?_, h.far, h.sep, h.tl, by rw [List.length_set]; exact h.len, h.bel.setCell hg _⟩
 intro j b r' hb hr'
 by_cases e : j = i
 ·subst e
  rw [ha] at hb
  cases hb
  rw [List.getElem?_set_self (List.getElem?_eq_some_iff.1 hr).1] at hr'
  cases hr'
  exact Kd.R_putn hrow (c : Int) x
 ·rw [List.getElem?_set_ne (fun e' => e e'.symm)] at hr'
  refine (h.inn j b r' hb hr').move hk (fun k ek e2 => ?_)
  cases ek
  obtain ⟨hi, ei⟩ := List.getElem?_eq_some_iff.1 ha
  obtain ⟨hj, ej⟩ := List.getElem?_eq_some_iff.1 hb
  have hs' := List.pairwise_iff_getElem.1 h.sep
  have e3 : b.1 = a.1 := by injection e2
  rcases Nat.lt_or_ge i j with hij | hij
  ·exact hs' i j hi hj hij (by rw [ei, ej]; exact e3.symm)
  ·exact hs' j i hj hi (by omega) (by rw [ei, ej]; exact e3)
/-- Row i's header, as it lies. -/
theorem Rt.head {i n c : Nat} {A : Option Addr} {a : Nat × Nat} (h : Rt w0 gp par tapes gV vT tab vL li vA bs (.slice A n c) hs rws wd W) (ha : hs[i]? = some a) : ∃ ad, A = some ad ∧ W.cell? (ad.add i) = some (encH wd a) := by
 obtain ⟨hn, _, hC⟩ := Kd.R_reads' h.out
 obtain ⟨hi, ei⟩ := List.getElem?_eq_some_iff.1 ha
 obtain ⟨ad, e, hc⟩ := hC.2.2 (by omega)
 obtain ⟨cs, h1, h2, h3⟩ := hc i a ha
 have h2' : cs = [encH wd a] := h2
 subst h2'
 refine ⟨ad, e, ?_⟩
 have := h3 0 _ rfl
 simpa [hk, Kd.scalar] using this
/-- The rows, as rows of rows. -/
theorem Rt.rows (h : Rt w0 gp par tapes gV vT tab vL li vA bs vN hs rws wd W) : Kd.R (Kd.slice 2 (Kd.int .i64)) 75 W w0.heap.size (fun _ => True) vN rws := by
 have ho : W.ownsRow w0.heap.size 75 1 vN hs.length (hs.map (encH wd)) := Kd.own_of_R (enc := encH wd) (h1 := fun _ => rfl) h.out
 refine ⟨fun _ _ => trivial, hs.map (encH wd), ?_, ?_⟩
 ·rw [← h.len]
  exact ho
 ·refine ⟨by rw [List.length_map, h.len]; show _ = _ * 1; omega, fun j p hj => ?_⟩
  obtain ⟨hjl, _⟩ := List.getElem?_eq_some_iff.1 hj
  have hjh : j < hs.length := by rw [h.len]; exact hjl
  have hi := h.inn j hs[j] p (List.getElem?_eq_getElem hjh) hj
  have e : ((hs.map (encH wd)).drop (j * (Kd.slice 2 (Kd.int .i64)).sz)).take (Kd.slice 2 (Kd.int .i64)).sz = [encH wd hs[j]] := by
   show ((hs.map (encH wd)).drop (j * 1)).take 1 = _
   rw [Nat.mul_one, List.drop_eq_getElem_cons (by rw [List.length_map]; exact hjh)]
   simp
  rw [e]
  exact ⟨_, rfl, R_typed hi h.out (by decide)⟩
end
end Go.Proofs.YtnjdkhnepmmfgaaDoor.Rg
namespace Go.Proofs.YtnjdkhnepmmfgaaDoor.Rg
set_option linter.unusedVariables false
set_option linter.unusedSimpArgs false
open Go.RowKit Go.Proofs.YtnjdkhnepmmfgaaDoorW.PrintWords Go.Proofs.YtnjdkhnepmmfgaaDoorW.PrintLast Go.Proofs.YtnjdkhnepmmfgaaDoorW.PrintMore Mp Kp Mg Tdy
/-- The next state and tapes; none where a tape that has ended goes on. -/
def nxR (rows : List (List Nat)) (size : Nat) (en : Nat → Nat → Option Nat) (x c : Nat) : Option Nat := (en (x % size) c).map (fun e => ((rows.getD (x / size) []).getD c 0) * size + e)
def enI (en : Nat → Nat → Option Nat) (e c : Nat) : Int := match en e c with
 | none => -1
 | some e' => (e' : Int)
theorem w_pow {tapes size : Nat} (hsz : 2 ^ tapes = size) (h : size ≤ 8) : wrap64 ((2 : Int) ^ tapes) = (size : Int) := by
 have e : ((2 : Int) ^ tapes) = (size : Int) := by rw [← hsz]; simp
 rw [e]
 unfold wrap64
 omega
theorem w_mul {a size n : Nat} (hn : a * size = n) (h : n ≤ 800000) : wrap64 ((a : Int) * (size : Int)) = (n : Int) := by
 have e : ((a : Int) * (size : Int)) = (n : Int) := by rw [← hn]; simp
 rw [e]
 unfold wrap64
 omega
theorem w_div {x size : Nat} (h : x / size ≤ 1000000) : wrap64 ((x : Int) / (size : Int)) = ((x / size : Nat) : Int) := by
 rw [← Int.natCast_ediv]
 generalize x / size = q at *
 unfold wrap64
 omega
theorem w_nat {n : Nat} (h : n ≤ 1000000) : wrap64 (n : Int) = (n : Int) := by
 unfold wrap64
 omega
theorem w_add {a b : Nat} (h : a + b ≤ 1000000) : wrap64 ((a : Int) + (b : Int)) = ((a + b : Nat) : Int) := by
 rw [← Int.natCast_add]
 exact w_nat h
theorem y_lt {y n size N e : Nat} (hy : y < n) (hN : n * size = N) (he : e < size) : y * size + e < N := by
 have h : (y + 1) * size ≤ n * size := Nat.mul_le_mul_right _ hy
 rw [Nat.succ_mul, hN] at h
 omega
theorem size_le {tapes size : Nat} (htp : tapes ≤ 3) (hsz : 2 ^ tapes = size) : 0 < size ∧ size ≤ 8 := by
 have : tapes = 0 ∨ tapes = 1 ∨ tapes = 2 ∨ tapes = 3 := by omega
 rcases this with rfl | rfl | rfl | rfl <;> simp at hsz <;> omega
theorem cut_lt {a b n size : Nat} (h : a < b) (hn : b * size = n) (h0 : 0 < size) : a * size < n := by
 rw [← hn]
 exact Nat.mul_lt_mul_of_pos_right h h0
theorem info_longs : (Tryd.prog.info? 75).map (fun i => (i.zero, i.size, i.bytes)) = some (some (.slice none 0 0), 1, 24) := by kernel_rfl
theorem info_long : (Tryd.prog.info? 2).map (fun i => (i.zero, i.size, i.bytes)) = some (some (.int .i64 0), 1, 8) := by kernel_rfl
set_option maxHeartbeats 8000000 in
set_option maxRecDepth 100000 in
theorem right (tapes : Nat) (htp : tapes ≤ 3) (size : Nat) (hsz : 2 ^ tapes = size) (start : Nat) (accs : List Bool) (rows : List (List Nat)) (wd : Nat) (hwd1 : 0 < wd) (hwd2 : wd ≤ 30) (hcl : Closed wd rows accs) (hn : rows.length ≤ 100000) (hst : start < rows.length)
  (en : Nat → Nat → Option Nat) (hen : ∀ e c e', e < size → c < wd → en e c = some e' → e' < size)
  (hwide : ∀ W, Calls Tryd.prog 53 #[.int .i64 tapes] W fun e W' => e = .returned (.int .i64 wd) ∧ Below W.heap.size W W')
  (hended : ∀ W e c, e < size → c < wd → Calls Tryd.prog 104 #[.int .i64 tapes, .int .i64 (e : Int), .int .i64 (c : Int)] W fun r W' => r = .returned (.int .i64 (enI en e c)) ∧ Below W.heap.size W W')
  (w : World) (gp : Nat) (AA : Option Addr) (ca : Nat) (AN : Option Addr) (cn : Nat) (hP : w.heap[gp]? = some (.cells #[.int .i64 tapes, .int .i64 start, .slice AA accs.length ca, .slice AN rows.length cn] 27 (0, 0)))
  (hA : Kd.C Kd.bool w AA accs.length accs) (hN : Kd.C (Kd.slice 2 (Kd.int .i64)) w AN rows.length (rows.map ints)) :
  Calls Tryd.prog 79 #[.pointer (some ⟨gp, 0, none⟩)] w fun e w' => ∃ (vA vN : Value) (li : List Nat) (rws : List (List Int)), e = .returned (.agg #[.int .i64 tapes, .int .i64 0, vA, vN]) ∧
   Kd.R Kd.bool 4 w' w.heap.size (fun _ => True) vA (li.map (fun x => accs.getD (x / size) false) ++ [false]) ∧ Kd.R (Kd.slice 2 (Kd.int .i64)) 75 w' w.heap.size (fun _ => True) vN (fixTo li.length li.length rws ++ [List.replicate wd (li.length : Int)]) ∧
   li[0]? = some (start * size) ∧ rws.length = li.length ∧ (∀ r ∈ rws, r.length = wd) ∧ (∀ (k x : Nat) (r : List Int), li[k]? = some x → rws[k]? = some r → RowOk (nxR rows size en) li x r) ∧ (∀ x ∈ li, x < rows.length * size) ∧ li.length ≤ rows.length * size ∧ Below w.heap.size w w' := by
 have hlen := Aside0.mk hcl.len
 have hsz1 := size_le htp hsz
 have hw1 := Aside0.mk (w_pow hsz hsz1.2)
 have hN8 : rows.length * size ≤ 800000 := Nat.le_trans (Nat.mul_le_mul hn hsz1.2) (by decide)
 clear hsz
 have hgp := blk_lt hP
 have P1 := blk_alloc hP (.cells #[.int .i64 0, .int .i64 0, .slice none 0 0, .slice none 0 0] 27)
 have d0 : (w.alloc (.cells #[.int .i64 0, .int .i64 0, .slice none 0 0, .slice none 0 0] 27)).cell? ⟨gp, 0, none⟩ = some (.int .i64 tapes) := (blk_cell P1 0).trans rfl
 have d2 : (w.alloc (.cells #[.int .i64 0, .int .i64 0, .slice none 0 0, .slice none 0 0] 27)).cell? ⟨gp, 2, none⟩ = some (.slice AA accs.length ca) := (blk_cell P1 2).trans rfl
 obtain ⟨NN, hNN⟩ : ∃ NN : Nat, rows.length * size = NN := ⟨_, rfl⟩
 rw [hNN] at hN8
 have hw2 : Aside0 (wrap64 ((accs.length : Int) * (size : Int)) = (NN : Int)) := ⟨by rw [← hlen.out]; exact w_mul hNN hN8⟩
 obtain ⟨s0, hS0⟩ : ∃ s0 : Nat, start * size = s0 := ⟨_, rfl⟩
 have hs0N : s0 < NN := by rw [← hS0]; exact cut_lt hst hNN hsz1.1
 have hw3 := Aside0.mk (w_mul hS0 (Nat.le_trans (Nat.le_of_lt hs0N) hN8))
 have hNN2 := Aside0.mk hNN
 have hS02 := Aside0.mk hS0
 clear hNN hS0
 go_enter Tryd.func79, Tryd.ntmps79
 go_wp2_with ((with_reducible refine gate_dst (N := 34) rfl ?_); go_loud (simp only [hw1.out, hw2.out]; refine Kd.R_make (Kd.int .i64) (w0 := w) w.heap.size 2 rfl (N := 34) rfl 75 _ _ rfl (NN : Int) rfl rfl Tryd.underlying75 (.int .i64 0) 8 info_long rfl (by decide) (by decide) (0 : Int) (ok := fun _ => True) (okp := fun _ => False) rfl (fun _ h => h.elim) trivial (by omega) (by simp; omega) (below_alloc (Below.refl _ _) _) (by simp) ?_; intro v2 w2 hR2 hb2 hg2 hn2; simp only [Int.toNat_natCast] at hR2; obtain ⟨gT, cT, hv2, hgT, _, _⟩ := Kd.R_form hR2 (by simp; omega); subst hv2; rw [List.length_replicate] at hR2; have h2 : R0 w gp #[.int .i64 tapes, .int .i64 start, .slice AA accs.length ca, .slice AN rows.length cn] (.slice (some ⟨gT, 0, none⟩) NN cT) (List.replicate NN 0) w2 := ⟨(Keep.grown hg2).obj P1 (by simp), (Keep.grown hg2).obj (blk_new _ _) (by simp), hR2, hb2⟩; clear hR2 hb2 hg2 hn2))
 clear P1 d0 d2
 go_loopg [6] NN (fun kq v6 wr => ∃ i : Nat, v6 = .int .i64 (i : Int) ∧ Aside0 (kq = NN - i) ∧ i ≤ NN ∧ Aside0 (R0 w gp #[.int .i64 tapes, .int .i64 start, .slice AA accs.length ca, .slice AN rows.length cn] (.slice (some ⟨gT, 0, none⟩) NN cT) (List.replicate i (-1) ++ List.replicate (NN - i) 0) wr))
 case atStart => exact ⟨0, rfl, ⟨by simp⟩, Nat.zero_le _, ⟨by simpa using h2⟩⟩
 case round =>
  clear h2
  obtain ⟨wo, rfl⟩ : ∃ wo : World, wo = wr := ⟨_, rfl⟩
  obtain ⟨i, rfl, hkq, hil, hr⟩ := hrel
  replace hr := hr.out
  by_cases hlt : i < NN
  ·have hl : (List.replicate i (-1 : Int) ++ List.replicate (NN - i) 0).length = NN := by simp; omega
   have k1 := sr_at hr.tab (i := i) (by rw [hl]; exact hlt)
   obtain ⟨hbT, cells, hcT⟩ := row_blk hr.tab (by rw [hl]; omega)
   have f1 : wo.frozen? ⟨gT, i, none⟩ = false := blk_frozen hcT i
   have h3 := hr.set hbT i (-1)
   rw [fill_step NN i hlt] at h3
   generalize (List.replicate i (-1 : Int) ++ List.replicate (NN - i) 0)[i]'(by rw [hl]; exact hlt) = oi at *
   clear hl hcT cells
   have hlt1 : ((i : Int) < (NN : Int)) = True := eq_true (by omega)
   have h0i : (0 ≤ (i : Int)) = True := eq_true (by omega)
   go_wp2_with fail
   go_roundg (NN - (i + 1))
   case measure => have := hkq.out; omega
   case rel => exact ⟨i + 1, (by go_num), ⟨by simp⟩, by omega, ⟨h3⟩⟩
  ·have hii : i = NN := by omega
   subst i
   have hlt1 : ((NN : Int) < (NN : Int)) = False := eq_false (by omega)
   have hl0 : List.replicate NN (-1 : Int) ++ List.replicate (NN - NN) 0 = List.replicate NN (-1) := by simp
   rw [hl0] at hr
   clear hl0
   have d0 : wo.cell? ⟨gp, 0, none⟩ = some (.int .i64 tapes) := (blk_cell hr.bP 0).trans rfl
   have d1 : wo.cell? ⟨gp, 1, none⟩ = some (.int .i64 start) := (blk_cell hr.bP 1).trans rfl
   obtain ⟨hbT, cells, hcT⟩ := row_blk hr.tab (by rw [List.length_replicate]; omega)
   have hgT1 := blk_lt hcT
   have hr1 := hr.step (below_alloc (Below.refl _ _) (.cells #[.int .i64 (s0 : Int)] 2))
   have d3 : (wo.alloc (.cells #[.int .i64 (s0 : Int)] 2)).cell? ⟨gp, 1, none⟩ = some (.int .i64 start) := (blk_cell hr1.bP 1).trans rfl
   have k1 := sr_at hr1.tab (i := s0) (by rw [List.length_replicate]; exact hs0N)
   have f1 : (wo.alloc (.cells #[.int .i64 (s0 : Int)] 2)).frozen? ⟨gT, s0, none⟩ = false := blk_frozen (blk_alloc hcT _) s0
   have hlt2 : ((s0 : Int) < (NN : Int)) = True := eq_true (by omega)
   have h0s : (0 ≤ (s0 : Int)) = True := eq_true (by omega)
   clear hcT cells
   have hr2 := (hr.set hbT s0 0).step (below_alloc (Below.refl _ _) (.cells #[.int .i64 (s0 : Int)] 2))
   have d4 : ((wo.setCell ⟨gT, s0, none⟩ (.int .i64 0)).alloc (.cells #[.int .i64 (s0 : Int)] 2)).cell? ⟨gp, 0, none⟩ = some (.int .i64 tapes) := (blk_cell hr2.bP 0).trans rfl
   have hw3e := hw3.out
   go_wp2_with fail
   clear hw3e d3 d4 k1 f1 hr1 d0 d1
   have hsw := Below.size hr.bel
   have hszw : (wo.setCell ⟨gT, s0, none⟩ (.int .i64 0)).heap.size = wo.heap.size := by simp [World.setCell]
   have hL : SR ((wo.setCell ⟨gT, s0, none⟩ (.int .i64 0)).alloc (.cells #[.int .i64 (s0 : Int)] 2)) w.heap.size (.slice (some ⟨wo.heap.size, 0, none⟩) 1 1) [(s0 : Int)] := by
    rw [← hszw]
    exact R_one (Kd.int .i64) _ _ _ (by rw [hszw]; exact hsw) (okp := fun _ => False) (cs := [.int .i64 (s0 : Int)]) rfl (fun _ h => h.elim) trivial
   generalize hWW : (wo.setCell ⟨gT, s0, none⟩ (.int .i64 0)).alloc (.cells #[.int .i64 (s0 : Int)] 2) = wx at *
   have hwx : wx.heap.size = wo.heap.size + 1 := by rw [← hWW]; simp [World.setCell]
   generalize hgg : wo.heap.size + 1 = gV at *
   have h5 : Rt w gp #[.int .i64 tapes, .int .i64 start, .slice AA accs.length ca, .slice AN rows.length cn] tapes gV (.slice (some ⟨gT, 0, none⟩) NN cT) ((List.replicate NN (-1 : Int)).set s0 0) (.slice (some ⟨wo.heap.size, 0, none⟩) 1 1) [(s0 : Int)] (.slice none 0 0) [] (.slice none 0 0) [] [] wd (wx.alloc (.cells #[.int .i64 tapes, .int .i64 0, .slice none 0 0, .slice none 0 0] 27)) :=
    ⟨blk_alloc hr2.bP _, blk_alloc hr2.bR _, blk_at _ _ _ hwx.symm, Kd.R_below hr2.tab (below_alloc (Below.refl _ _) _), Kd.R_below hL (below_alloc (Below.refl _ _) _), Kd.R_nil _ _ _ _ _, Kd.R_nil _ _ _ _ _, (fun i a r ha => by simp at ha), (fun a ha => by cases ha), List.Pairwise.nil, (fun k hk e => by cases hk; simp [Value.ownBlock] at e; omega), rfl, below_alloc hr2.bel _⟩
   have hTab := Aside0.mk (tab_start hs0N)
   have hVs : Aside0 (w.heap.size < gV) := ⟨by omega⟩
   have hgV : Aside0 (gp ≠ gV) := ⟨by omega⟩
   clear hr2 hr hL hWW hwx hszw hsw hgT1 hkq hgg
   go_loopg [7, 9] NN (fun kq v7 v9 wr => ∃ (i : Nat) (li : List Nat) (tab : List Int) (A7 : Option Addr) (c7 : Nat) (vA vN : Value) (hs : List (Nat × Nat)) (rws : List (List Int)), v7 = .slice A7 li.length c7 ∧ v9 = .int .i64 (i : Int) ∧ Aside0 (kq = NN - i) ∧ i ≤ li.length ∧ Aside0 (Tab NN li tab) ∧ Aside0 (li[0]? = some s0) ∧ Aside0 (rws.length = i) ∧ Aside0 (∀ r ∈ rws, r.length = wd) ∧ Aside0 (∀ (k x : Nat) (r : List Int), li[k]? = some x → rws[k]? = some r → RowOk (nxR rows size en) li x r) ∧
    Aside0 (Rt w gp #[.int .i64 tapes, .int .i64 start, .slice AA accs.length ca, .slice AN rows.length cn] tapes gV (.slice (some ⟨gT, 0, none⟩) NN cT) tab (.slice A7 li.length c7) (ints li) vA ((li.take i).map (fun x => accs.getD (x / size) false)) vN hs rws wd wr))
   case atStart => exact ⟨0, [s0], _, _, _, _, _, [], [], rfl, rfl, ⟨by simp⟩, Nat.zero_le _, hTab, ⟨rfl⟩, ⟨rfl⟩, ⟨fun r hr => by cases hr⟩, ⟨fun k x r _ hr => by simp at hr⟩, ⟨h5⟩⟩
   case round =>
    clear h5 hTab
    obtain ⟨wo, rfl⟩ : ∃ wo : World, wo = wr := ⟨_, rfl⟩
    obtain ⟨i, li, tab, A7, c7, vA, vN, hs, rws, rfl, rfl, hkq, hil, hTab, hli0, hrl, hrw, hok, hR⟩ := hrel
    replace hR := hR.out
    by_cases hlt : i < li.length
    ·have hli := hTab.out.le
     have hlsz : Aside0 (li[i] < NN) := ⟨hTab.out.lt _ (List.getElem_mem hlt)⟩
     obtain ⟨ad, rfl, k1⟩ := sr_at' hR.lst (i := i) (by rw [ints_length]; exact hlt)
     rw [ints_get li i _ hlt] at k1
     have hxi := Aside0.mk (List.getElem?_eq_getElem hlt)
     generalize li[i] = x at *
     have hlt1 : ((i : Int) < (li.length : Int)) = True := eq_true (by omega)
     have h0i : (0 ≤ (i : Int)) = True := eq_true (by omega)
     have hsx : x / size < rows.length := by
      rw [Nat.div_lt_iff_lt_mul hsz1.1, hNN2.out]
      exact hlsz.out
     have hxm : x % size < size := Nat.mod_lt _ hsz1.1
     have hw4 : wrap64 ((x : Int) / (size : Int)) = ((x / size : Nat) : Int) := w_div (Nat.le_trans (Nat.le_of_lt hsx) (Nat.le_trans hn (by decide)))
     obtain ⟨sx, hsx2⟩ : ∃ sx : Nat, Aside0 (x / size = sx) := ⟨_, ⟨rfl⟩⟩
     simp only [hsx2.out] at hw4 hsx
     go_wp2_with fail
     simp only [hw4]
     clear hw4 k1
     have hE := below_alloc (Below.refl wo.heap.size wo) (.cells #[] 2)
     have hR6 := hR.step hE
     have hr0 : SR (wo.alloc (.cells #[] 2)) wo.heap.size (.slice (some ⟨wo.heap.size, 0, none⟩) 0 0) [] := sr_zero wo _ (Nat.le_refl _)
     have hr6 := Kd.R_lower hr0 (Below.size hR.bel)
     have hfr : Clear (Value.slice (some ⟨wo.heap.size, 0, none⟩) 0 0) (Value.slice (some ⟨gT, 0, none⟩) NN cT) (Value.slice (some ad) li.length c7) hs := by
      intro k hk
      cases hk
      exact ⟨fun e => by have := Kd.R_lt hR.tab _ e.symm; simp only at this; omega, fun e => by have := Kd.R_lt hR.lst _ e.symm; simp only at this; omega, fun h hh e => absurd (hR.lt hh hR.len) (by rw [e]; exact Nat.lt_irrefl _)⟩
     have hfr2 := Aside0.mk hfr
     clear hfr hE hr0
     go_loopg [7, 11, 12] wd (fun kq v7 v11 v12 wq => ∃ (c : Nat) (li2 m : List Nat) (tab2 : List Int) (A7 : Option Addr) (c7 : Nat) (Ar : Option Addr) (cr : Nat) (r : List Int), v7 = .slice A7 li2.length c7 ∧ v11 = .slice Ar r.length cr ∧ v12 = .int .i64 (c : Int) ∧ Aside0 (kq = wd - c) ∧ c ≤ wd ∧ Aside0 (r.length = c) ∧ Aside0 (Tab NN li2 tab2) ∧ Aside0 (li2 = li ++ m) ∧ Aside0 (RowOk (nxR rows size en) li2 x r) ∧
      Aside0 (Clear (Value.slice Ar r.length cr) (Value.slice (some ⟨gT, 0, none⟩) NN cT) (Value.slice A7 li2.length c7) hs) ∧ Aside0 (SR wq w.heap.size (.slice Ar r.length cr) r) ∧
      Aside0 (Rt w gp #[.int .i64 tapes, .int .i64 start, .slice AA accs.length ca, .slice AN rows.length cn] tapes gV (.slice (some ⟨gT, 0, none⟩) NN cT) tab2 (.slice A7 li2.length c7) (ints li2) vA ((li.take i).map (fun x => accs.getD (x / size) false)) vN hs rws wd wq))
     case atStart => exact ⟨0, li, [], tab, _, _, _, _, [], rfl, rfl, rfl, ⟨by simp⟩, Nat.zero_le _, ⟨rfl⟩, hTab, ⟨by simp⟩, ⟨fun c hc => by cases hc⟩, hfr2, ⟨hr6⟩, ⟨hR6⟩⟩
     case round =>
      clear hr6 hR6 hfr2 hTab
      obtain ⟨c, li2, m, tab2, A7, c7, Ar, cr, r, rfl, rfl, rfl, hkc, hcw, hrc, hTab, hlm, hro, hfr, hr, hQ⟩ := hrel
      replace hr := hr.out
      replace hQ := hQ.out
      have hil2 : i < li2.length := by rw [hlm.out, List.length_append]; omega
      have hlx : Aside0 (li2[i] = x) := ⟨by
       have h := get_app m hxi.out
       rw [← hlm.out, List.getElem?_eq_getElem hil2] at h
       exact Option.some.inj h⟩
      obtain ⟨a7, rfl, e1⟩ := sr_at' hQ.lst (i := i) (by rw [ints_length]; exact hil2)
      rw [ints_get li2 i _ hil2, hlx.out] at e1
      have e0 : wr.cell? ⟨gp, 0, none⟩ = some (.int .i64 tapes) := (blk_cell hQ.bP 0).trans rfl
      by_cases hc : c < wd
      ·have hlt2 : ((c : Int) < (wd : Int)) = True := eq_true (by omega)
       go_wp2_with (go_at_call 53; (with_reducible refine (hwide _).mono ?_); rintro e w4 ⟨rfl, hb4⟩; replace hQ := hQ.step hb4; replace hr := Kd.R_below hr hb4; clear e0 e1)
       have e0 : w4.cell? ⟨gp, 0, none⟩ = some (.int .i64 tapes) := (blk_cell hQ.bP 0).trans rfl
       have e1 : w4.cell? (a7.add i) = some (.int .i64 (x : Int)) := by
        obtain ⟨ad, e, k⟩ := sr_at' hQ.lst (i := i) (by rw [ints_length]; exact hil2)
        cases e
        rw [ints_get li2 i _ hil2, hlx.out] at k
        exact k
       have hi2 : ((i : Int) < (li2.length : Int)) = True := eq_true (by omega)
       have hsz0 : (size = 0) = False := eq_false (by omega)
       have htm : Int.tmod (x : Int) (size : Int) = ((x % size : Nat) : Int) := rfl
       have hQd := hQ.step (below_drew1 (Below.refl _ _))
       have hrd := Kd.R_below hr (below_drew1 (Below.refl _ _))
       refine start_ (n := 13) (S := fun w' => w'.cell? ⟨gp, 0, none⟩ = some (.int .i64 tapes) ∧ w'.cell? (a7.add i) = some (.int .i64 (x : Int))) (ds := []) (.replicate 13 false) (by kernel_rfl) rfl rfl (⟨e0, e1⟩) (fun hHeld => ?_)
       refine pure_ (i := 0) (N := some 86) (v := ?_) (a' := ?_) (zb 13 1) rfl rfl (by kernel_rfl) (fun _ _ _ h => h) (Or.inl ⟨by rfl, ?_⟩) ?_ ?_
       rotate_left
       ·intro w'
        go_simp
        with_reducible rfl
       rotate_left
       ·simp only [Act.put, Za, Zb, Zc, i64_w, i32_w]
        rfl
       refine pure_ (i := 1) (N := some 87) (v := ?_) (a' := ?_) (zb 13 3) rfl rfl (by kernel_rfl) (fun _ _ _ h => h) (Or.inl ⟨by rfl, ?_⟩) ?_ ?_
       rotate_left
       ·intro w'
        go_simp
        with_reducible rfl
       rotate_left
       ·simp only [Act.put, Za, Zb, Zc, i64_w, i32_w]
        rfl
       refine pure_ (i := 2) (N := some 88) (v := ?_) (a' := ?_) (zb 13 7) rfl rfl (by kernel_rfl) (fun _ _ _ h => h) (Or.inl ⟨by rfl, ?_⟩) ?_ ?_
       rotate_left
       ·intro w'
        go_simp
        with_reducible rfl
       rotate_left
       ·simp only [Act.put, Za, Zb, Zc, i64_w, i32_w]
        rfl
       refine pure_ (i := 4) (N := some 90) (v := ?_) (a' := ?_) (zb 13 23) rfl rfl (by kernel_rfl) (fun _ _ _ h => h) (Or.inl ⟨by rfl, ?_⟩) ?_ ?_
       rotate_left
       ·intro w'
        go_simp
        with_reducible rfl
       rotate_left
       ·simp only [Act.put, Za, Zb, Zc, i64_w, i32_w]
        rfl
       refine pure_ (i := 5) (N := some 91) (v := ?_) (a' := ?_) (zb 13 55) rfl rfl (by kernel_rfl) (fun _ _ _ h => h) (Or.inl ⟨by rfl, ?_⟩) ?_ ?_
       rotate_left
       ·intro w'
        go_simp
        with_reducible rfl
       rotate_left
       ·simp only [Act.put, Za, Zb, Zc, i64_w, i32_w]
        rfl
       refine pure_ (i := 6) (N := some 92) (v := ?_) (a' := ?_) (zb 13 119) rfl rfl (by kernel_rfl) (fun _ _ _ h => h) (Or.inl ⟨by rfl, ?_⟩) ?_ ?_
       rotate_left
       ·intro w'
        go_simp
        with_reducible rfl
       rotate_left
       ·simp only [Act.put, Za, Zb, Zc, i64_w, i32_w]
        rfl
       refine pure_ (i := 8) (N := some 94) (v := ?_) (a' := ?_) (zb 13 375) rfl rfl (by kernel_rfl) (fun _ _ _ h => h) (Or.inl ⟨by rfl, ?_⟩) ?_ ?_
       rotate_left
       ·intro w'
        go_simp
        with_reducible rfl
       rotate_left
       ·simp only [Act.put, Za, Zb, Zc, i64_w, i32_w]
        rfl
       refine pure_ (i := 10) (N := some 96) (v := ?_) (a' := ?_) (zb 13 1399) rfl rfl (by kernel_rfl) (fun _ _ _ h => h) (Or.inl ⟨by rfl, ?_⟩) ?_ ?_
       rotate_left
       ·intro w'
        go_simp
        with_reducible rfl
       rotate_left
       ·simp only [Act.put, Za, Zb, Zc, i64_w, i32_w]
        rfl
       refine take_ (i := 3) (N := some 89) (v := ?_) (a' := ?_) (zb 13 1407) rfl rfl (by kernel_rfl) (fun _ _ _ h => h) (Or.inl ⟨by rfl, ?_⟩) hHeld ?_ ?_
       rotate_left
       ·rintro w' ⟨s1, s2⟩
        go_simp
        with_reducible rfl
       rotate_left
       ·simp only [Act.put, Za, Zb, Zc, i64_w, i32_w]
        rfl
       refine take_ (i := 7) (N := some 93) (v := ?_) (a' := ?_) (zb 13 1535) rfl rfl (by kernel_rfl) (fun _ _ _ h => h) (Or.inl ⟨by rfl, ?_⟩) hHeld ?_ ?_
       rotate_left
       ·rintro w' ⟨s1, s2⟩
        go_simp
        with_reducible rfl
       rotate_left
       ·simp only [Act.put, Za, Zb, Zc, i64_w, i32_w]
        rfl
       refine pure_ (i := 9) (N := some 95) (v := ?_) (a' := ?_) (zb 13 2047) rfl rfl (by kernel_rfl) (fun _ _ _ h => h) (Or.inl ⟨by rfl, ?_⟩) ?_ ?_
       rotate_left
       ·intro w'
        go_simp
        with_reducible rfl
       rotate_left
       ·simp only [Act.put, Za, Zb, Zc, i64_w, i32_w]
        rfl
       refine one_ (i := 11) (N := some 97) (zb 13 4095) rfl rfl (by kernel_rfl) (by decide) (fun K hK => ?_)
       refine goes_ Tryd.func104 (by kernel_rfl) rfl #[.int .i64 tapes, .int .i64 ((x % size : Nat) : Int), .int .i64 (c : Int)] (by rfl) rfl rfl (by (try simp only [List.map_toArray, List.map_cons, List.map_nil]); first | done | rfl) ?_
       with_reducible refine (hended _ (x % size) c hxm hc).mono ?_
       rintro e w5 ⟨rfl, hb5⟩
       refine ⟨_, rfl, ?_⟩
       have hQ5 := hQd.step hb5
       have hr5 := Kd.R_below hrd hb5
       refine hK.out _ _ ⟨(blk_cell hQ5.bP 0).trans rfl, by obtain ⟨ad, e, k⟩ := sr_at' hQ5.lst (i := i) (by rw [ints_length]; exact hil2); cases e; rw [ints_get li2 i _ hil2, hlx.out] at k; exact k⟩ (fun hHeld => ?_)
       clear hK K
       refine norm_ (a' := ?_) ?_ ?_
       rotate_left
       ·show Act.put _ (some 97) _ = _
        simp only [Act.put, Za, Zb, Zc, i64_w, i32_w]
        rfl
       refine pure_ (i := 12) (N := some 13) (v := ?_) (a' := ?_) (zb 13 8191) rfl rfl (by kernel_rfl) (fun _ _ _ h => h) (Or.inl ⟨by rfl, ?_⟩) ?_ ?_
       rotate_left
       ·intro w'
        go_simp
        with_reducible rfl
       rotate_left
       ·simp only [Act.put, Za, Zb, Zc, i64_w, i32_w]
        rfl
       refine done_ (by kernel_rfl) ?_
       have hro2 := hro.out
       have hlr := hrc.out
       cases he : en (x % size) c with
       | none =>
        have hv : enI en (x % size) c = -1 := by unfold enI; rw [he]
        have hnx : nxR rows size en x r.length = none := by unfold nxR; rw [hlr, he]; rfl
        have hro3 := Aside0.mk (hro2.none hnx)
        rw [hv]
        clear he hv hnx hro2
        go_wp2_with ((with_reducible refine gate_builtin (b := .append) (xs := #[.tmp 100, .tmp 101]) rfl ?_); go_loud (at_builtin; refine R_append' (Kd.int .i64) (w0 := w) w.heap.size rfl (.tmp 100) (.tmp 101) 75 2 (.int .i64 0) 8 rfl Tryd.underlying75 info_long rfl (by decide) (by decide) (.slice Ar r.length cr) r (-1) [.int .i64 (-1)] (fun _ => True) (fun _ => False) _ (by simp) rfl rfl rfl (fun _ h => h.elim) (fun _ _ => trivial) hr5 hQ5.bel (Below.size hQ5.bel) (by omega) ?_; intro v6 w6 hR6 hb6 hg6 hat6; obtain ⟨A6, c6, hv6⟩ := Kd.R_slice hR6; subst hv6; obtain ⟨hQ6, hf6⟩ := hQ5.app hr5 hfr.out hg6 hat6 hb6))
        go_roundg (wd - (c + 1))
        case measure => have := hkc.out; omega
        case rel => exact ⟨c + 1, li2, m, tab2, some a7, c7, A6, c6, r ++ [-1], rfl, (by simp [hlr]), (by go_num), ⟨by simp⟩, by omega, ⟨by simp [hlr]⟩, hTab, hlm, hro3, ⟨hf6⟩, ⟨hR6⟩, ⟨hQ6⟩⟩
       | some e' =>
        have hv : enI en (x % size) c = (e' : Int) := by unfold enI; rw [he]
        rw [hv]
        have hee := hen (x % size) c e' hxm hc he
        obtain ⟨ad, rfl, A', c', n1, n2, n3⟩ := at_row (Kd.C_below hN hQ5.bel) sx (by simpa using hsx)
        have er : (rows.map ints)[sx]'(by simpa using hsx) = ints rows[sx] := by simp
        have hrw2 : rows[sx].length = wd := hcl.wide _ (List.getElem_mem hsx)
        rw [er, ints_length, hrw2] at n1 n2 n3
        obtain ⟨a2, rfl, n4⟩ := at_num n3 c (by rw [ints_length]; omega)
        rw [ints_get _ c _ (by omega)] at n4
        have hy : rows[sx][c]'(by omega) < rows.length := hcl.lt _ (List.getElem_mem hsx) _ (List.getElem_mem _)
        have hyt := y_lt hy hNN2.out hee
        have hnx : nxR rows size en x r.length = some (rows[sx][c]'(by omega) * size + e') := by
         unfold nxR
         rw [hlr, he, hsx2.out, List.getD_eq_getElem?_getD (l := rows), List.getElem?_eq_getElem hsx, Option.getD_some, List.getD_eq_getElem?_getD, List.getElem?_eq_getElem (by omega)]
         rfl
        have hw6 := Aside0.mk (w_mul (a := rows[sx][c]'(by omega)) (size := size) rfl (by omega))
        have hw7 := Aside0.mk (w_add (a := rows[sx][c]'(by omega) * size) (b := e') (by omega))
        obtain ⟨t, ht⟩ : ∃ t : Nat, rows[sx][c]'(by omega) * size + e' = t := ⟨_, rfl⟩
        rw [ht] at hw7 hyt hnx
        clear ht hy er
        generalize rows[sx][c]'(by omega) = y at *
        generalize y * size = yz at *
        clear hrw2 hv
        have hs1 : ((sx : Int) < (rows.length : Int)) = True := eq_true (by omega)
        have hs2 : (0 ≤ (sx : Int)) = True := eq_true (by omega)
        have hc2 : (0 ≤ (c : Int)) = True := eq_true (by omega)
        have ht1 : ((t : Int) < (NN : Int)) = True := eq_true (by omega)
        have ht2 : (0 ≤ (t : Int)) = True := eq_true (by omega)
        have g3 : w5.cell? ⟨gp, 3, none⟩ = some (.slice (some ad) rows.length cn) := (blk_cell hQ5.bP 3).trans rfl
        have htl := hTab.out.len
        have kt := sr_at hQ5.tab (i := t) (by omega)
        obtain ⟨hbT, cells, hcT⟩ := row_blk hQ5.tab (by omega)
        have ft : w5.frozen? ⟨gT, t, none⟩ = false := blk_frozen hcT t
        rcases hTab.out.at_ t (by omega) with ⟨hm1, hnm⟩ | ⟨j, hm1, hj⟩
        ·have e1 : tab2[t]'(by omega) = -1 := by rw [List.getElem?_eq_getElem (by omega)] at hm1; exact Option.some.inj hm1
         rw [e1] at kt
         have hle := hTab.out.le
         have hQ6 := hQ5.set hbT t (li2.length : Int)
         have hr6 : SR _ w.heap.size (.slice Ar r.length cr) r := SR.move hr5 (Keep.set w5 ⟨gT, t, none⟩ (.int .i64 (li2.length : Int))) (fun k hk => (hfr.out k hk).1)
         have hTab2 := Aside0.mk (hTab.out.push (x := t) (by omega) hnm)
         have hro3 := Aside0.mk ((hro2.grow [t]).some hnx (j := li2.length) (by simp))
         have hst2 : (tab2.set t (li2.length : Int)).length = NN := by rw [List.length_set, htl]
         have hst3 := Aside0.mk hst2
         have hyt2 := Aside0.mk hyt
         have hil3 : Aside0 (ints (li2 ++ [t]) = ints li2 ++ [(t : Int)]) := ⟨by simp [ints, GwI.ints]⟩
         have hlm2 : Aside0 (li2 ++ [t] = li ++ (m ++ [t])) := ⟨by rw [hlm.out, List.append_assoc]⟩
         clear e1 hm1 hnm hnx hro2 he hcT cells htl hst2 hyt hlr
         have hu6 := hw6.out
         have hu7 := hw7.out
         go_wp2_with (first
          | ((with_reducible refine gate_builtin (b := .append) (xs := #[.tmp 127, .tmp 129]) rfl ?_); go_loud ((try simp only [hu6, hu7]); clear hu6 hu7; at_builtin; refine R_append' (Kd.int .i64) (w0 := w) w.heap.size rfl (.tmp 127) (.tmp 129) 75 2 (.int .i64 0) 8 rfl Tryd.underlying75 info_long rfl (by decide) (by decide) (.slice (some a7) li2.length c7) (ints li2) (t : Int) [.int .i64 (t : Int)] (fun _ => True) (fun _ => False) _ (by simp) rfl rfl rfl (fun _ h => h.elim) (fun _ _ => trivial) hQ6.lst hQ6.bel (Below.size hQ6.bel) (by rw [ints_length]; omega) ?_; intro v7 w7 hR7 hb7 hg7 hat7; obtain ⟨A8, c8, hv7⟩ := Kd.R_slice hR7; rw [← hil3.out] at hR7; have ev : (ints li2 ++ [(t : Int)]).length = li2.length + 1 := (by simp [ints, GwI.ints]); rw [ev] at hv7; subst hv7; have hQ7 := hQ6.push hg7 hat7 hR7 hb7; have hf7 := Clear.push hfr.out hr6 hat7; have hr7 : SR w7 w.heap.size (.slice Ar r.length cr) r := SR.move hr6 (Keep.grown hg7) (fun k hk => (hfr.out k hk).2.1); have kt7 := sr_at hQ7.tab (i := t) (by rw [hst3.out]; exact hyt2.out); rw [List.getElem_set_self] at kt7))
          | ((with_reducible refine gate_builtin (b := .append) (xs := #[.tmp 131, .tmp 136]) rfl ?_); go_loud (at_builtin; refine R_append' (Kd.int .i64) (w0 := w) w.heap.size rfl (.tmp 131) (.tmp 136) 75 2 (.int .i64 0) 8 rfl Tryd.underlying75 info_long rfl (by decide) (by decide) (.slice Ar r.length cr) r (li2.length : Int) [.int .i64 (li2.length : Int)] (fun _ => True) (fun _ => False) _ (by simp) rfl rfl rfl (fun _ h => h.elim) (fun _ _ => trivial) hr7 hQ7.bel (Below.size hQ7.bel) (by have := hrc.out; omega) ?_; intro v6 w6 hR8 hb8 hg8 hat8; obtain ⟨A6, c6, hv6⟩ := Kd.R_slice hR8; subst hv6; obtain ⟨hQ8, hf8⟩ := hQ7.app hr7 hf7 hg8 hat8 hb8)))
         go_roundg (wd - (c + 1))
         case measure => have := hkc.out; omega
         case rel => exact ⟨c + 1, li2 ++ [t], m ++ [t], tab2.set t (li2.length : Int), A8, c8, A6, c6, r ++ [(li2.length : Int)], (by simp), (by simp [hrc.out]), (by go_num), ⟨by simp⟩, by omega, ⟨by simp [hrc.out]⟩, hTab2, hlm2, hro3, ⟨by simpa using hf8⟩, ⟨hR8⟩, ⟨by simpa using hQ8⟩⟩
        ·have e1 : tab2[t]'(by omega) = (j : Int) := by rw [List.getElem?_eq_getElem (by omega)] at hm1; exact Option.some.inj hm1
         rw [e1] at kt
         have hj0 : ((j : Int) < 0) = False := eq_false (by omega)
         have hro3 := Aside0.mk (hro2.some hnx hj)
         clear e1 hm1 hj hnx hro2 he hcT cells htl hyt
         have hu6 := hw6.out
         have hu7 := hw7.out
         go_wp2_with ((with_reducible refine gate_builtin (b := .append) (xs := #[.tmp 131, .tmp 136]) rfl ?_); go_loud (clear hu6 hu7; at_builtin; refine R_append' (Kd.int .i64) (w0 := w) w.heap.size rfl (.tmp 131) (.tmp 136) 75 2 (.int .i64 0) 8 rfl Tryd.underlying75 info_long rfl (by decide) (by decide) (.slice Ar r.length cr) r (j : Int) [.int .i64 (j : Int)] (fun _ => True) (fun _ => False) _ (by simp) rfl rfl rfl (fun _ h => h.elim) (fun _ _ => trivial) hr5 hQ5.bel (Below.size hQ5.bel) (by omega) ?_; intro v6 w6 hR6 hb6 hg6 hat6; obtain ⟨A6, c6, hv6⟩ := Kd.R_slice hR6; subst hv6; obtain ⟨hQ6, hf6⟩ := hQ5.app hr5 hfr.out hg6 hat6 hb6))
         go_roundg (wd - (c + 1))
         case measure => have := hkc.out; omega
         case rel => exact ⟨c + 1, li2, m, tab2, some a7, c7, A6, c6, r ++ [(j : Int)], rfl, (by simp [hlr]), (by go_num), ⟨by simp⟩, by omega, ⟨by simp [hlr]⟩, hTab, hlm, hro3, ⟨hf6⟩, ⟨hR6⟩, ⟨hQ6⟩⟩
      ·have hcc : c = wd := by omega
       subst c
       have hlt2 : ((wd : Int) < (wd : Int)) = False := eq_false (by omega)
       go_wp2_with (go_at_call 53; (with_reducible refine (hwide _).mono ?_); rintro e w4 ⟨rfl, hb4⟩; replace hQ := hQ.step hb4; replace hr := Kd.R_below hr hb4; clear e0 e1)
       generalize w4 = wr at *
       have hsa : sx < accs.length := by rw [← hlen.out]; exact hsx
       obtain ⟨am, rfl, _⟩ := at_mark hA sx hsa
       obtain ⟨bx, hbx⟩ : ∃ bx : Bool, Aside0 (accs[sx] = bx) := ⟨_, ⟨rfl⟩⟩
       have hsa1 : ((sx : Int) < (accs.length : Int)) = True := eq_true (by omega)
       have hsa2 : (0 ≤ (sx : Int)) = True := eq_true (by omega)
       have hQd := hQ.step (below_drew1 (Below.refl _ _))
       have hrd := Kd.R_below hr (below_drew1 (Below.refl _ _))
       have hSS : ∀ W' tab vL li vA' bs vN hs rws, Rt w gp #[.int .i64 tapes, .int .i64 start, .slice (some am) accs.length ca, .slice AN rows.length cn] tapes gV (.slice (some ⟨gT, 0, none⟩) NN cT) tab vL li vA' bs vN hs rws wd W' → W'.cell? ⟨gV, 2, none⟩ = some vA' ∧ W'.cell? ⟨gp, 2, none⟩ = some (.slice (some am) accs.length ca) ∧ W'.cell? (am.add sx) = some (.bool bx) := by
        intro W' tab vL li vA' bs vN hs rws h
        obtain ⟨a9, e9, k9⟩ := at_mark (Kd.C_below hA h.bel) sx hsa
        cases e9
        exact ⟨(blk_cell h.bV 2).trans rfl, (blk_cell h.bP 2).trans rfl, by rw [k9, hbx.out]⟩
       refine start_ (n := 13) (S := fun w' => w'.cell? ⟨gV, 2, none⟩ = some vA ∧ w'.cell? ⟨gp, 2, none⟩ = some (.slice (some am) accs.length ca) ∧ w'.cell? (am.add sx) = some (.bool bx)) (ds := [12]) (.replicate 13 false) (by kernel_rfl) rfl rfl (hSS _ _ _ _ _ _ _ _ _ hQd) (fun hHeld => ?_)
       refine pure_ (i := 0) (N := some 138) (v := ?_) (a' := ?_) (zb 13 1) rfl rfl (by kernel_rfl) (fun _ _ _ h => h) (Or.inl ⟨by rfl, ?_⟩) ?_ ?_
       rotate_left
       ·intro w'
        go_simp
        with_reducible rfl
       rotate_left
       ·simp only [Act.put, Za, Zb, Zc, i64_w, i32_w]
        rfl
       refine pure_ (i := 2) (N := some 140) (v := ?_) (a' := ?_) (zb 13 5) rfl rfl (by kernel_rfl) (fun _ _ _ h => h) (Or.inl ⟨by rfl, ?_⟩) ?_ ?_
       rotate_left
       ·intro w'
        go_simp
        with_reducible rfl
       rotate_left
       ·simp only [Act.put, Za, Zb, Zc, i64_w, i32_w]
        rfl
       refine pure_ (i := 3) (N := some 141) (v := ?_) (a' := ?_) (zb 13 13) rfl rfl (by kernel_rfl) (fun _ _ _ h => h) (Or.inl ⟨by rfl, ?_⟩) ?_ ?_
       rotate_left
       ·intro w'
        go_simp
        with_reducible rfl
       rotate_left
       ·simp only [Act.put, Za, Zb, Zc, i64_w, i32_w]
        rfl
       refine pure_ (i := 4) (N := some 142) (v := ?_) (a' := ?_) (zb 13 29) rfl rfl (by kernel_rfl) (fun _ _ _ h => h) (Or.inl ⟨by rfl, ?_⟩) ?_ ?_
       rotate_left
       ·intro w'
        go_simp
        with_reducible rfl
       rotate_left
       ·simp only [Act.put, Za, Zb, Zc, i64_w, i32_w]
        rfl
       refine pure_ (i := 6) (N := some 144) (v := ?_) (a' := ?_) (zb 13 93) rfl rfl (by kernel_rfl) (fun _ _ _ h => h) (Or.inl ⟨by rfl, ?_⟩) ?_ ?_
       rotate_left
       ·intro w'
        go_simp
        with_reducible rfl
       rotate_left
       ·simp only [Act.put, Za, Zb, Zc, i64_w, i32_w]
        rfl
       refine take_ (i := 1) (N := some 139) (v := ?_) (a' := ?_) (zb 13 95) rfl rfl (by kernel_rfl) (fun _ _ _ h => h) (Or.inl ⟨by rfl, ?_⟩) hHeld ?_ ?_
       rotate_left
       ·rintro w' ⟨s1, s2, s3⟩
        go_simp
        with_reducible rfl
       rotate_left
       ·simp only [Act.put, Za, Zb, Zc, i64_w, i32_w]
        rfl
       refine take_ (i := 5) (N := some 143) (v := ?_) (a' := ?_) (zb 13 127) rfl rfl (by kernel_rfl) (fun _ _ _ h => h) (Or.inl ⟨by rfl, ?_⟩) hHeld ?_ ?_
       rotate_left
       ·rintro w' ⟨s1, s2, s3⟩
        go_simp
        with_reducible rfl
       rotate_left
       ·simp only [Act.put, Za, Zb, Zc, i64_w, i32_w]
        rfl
       refine pure_ (i := 7) (N := some 145) (v := ?_) (a' := ?_) (zb 13 255) rfl rfl (by kernel_rfl) (fun _ _ _ h => h) (Or.inl ⟨by rfl, ?_⟩) ?_ ?_
       rotate_left
       ·intro w'
        go_simp
        with_reducible rfl
       rotate_left
       ·simp only [Act.put, Za, Zb, Zc, i64_w, i32_w]
        rfl
       refine take_ (i := 8) (N := some 146) (v := ?_) (a' := ?_) (zb 13 511) rfl rfl (by kernel_rfl) (fun _ _ _ h => h) (Or.inl ⟨by rfl, ?_⟩) hHeld ?_ ?_
       rotate_left
       ·rintro w' ⟨s1, s2, s3⟩
        go_simp
        with_reducible rfl
       rotate_left
       ·simp only [Act.put, Za, Zb, Zc, i64_w, i32_w]
        rfl
       refine one_ (i := 9) (N := some 147) (zb 13 1023) rfl rfl (by kernel_rfl) (by decide) (fun K hK => ?_)
       refine value_ (w1 := wr.drew.alloc (.cells #[.bool bx] 4)) (v := .slice (some ⟨wr.drew.heap.size, 0, none⟩) 1 1) (by rfl) rfl (by first | (go_simp; done) | (go_simp; rfl)) ?_
       have hQ5 := hQd.step (below_alloc (Below.refl _ _) (.cells #[.bool bx] 4))
       refine hK.out _ _ (hSS _ _ _ _ _ _ _ _ _ hQ5) (fun hHeld => ?_)
       clear hK K
       refine norm_ (a' := ?_) ?_ ?_
       rotate_left
       ·show Act.put _ (some 147) _ = _
        simp only [Act.put, Za, Zb, Zc, i64_w, i32_w]
        rfl
       refine one_ (i := 10) (N := some 148) (zb 13 2047) rfl rfl (by kernel_rfl) (by decide) (fun K hK => ?_)
       refine Kd.R_append_step Kd.bool (w0 := w) w.heap.size (by rfl) (.tmp 139) (.tmp 147) 22 4 (.bool false) 1 rfl Tryd.underlying22 GwI.info_bool rfl (by decide) (by decide) vA ((li.take i).map (fun x => accs.getD (x / size) false)) bx [.bool bx] (fun _ => True) (fun _ => False) rfl rfl rfl (fun _ h => h.elim) (fun _ _ => trivial) hQd.acc hQd.bel (Below.size hQd.bel) (by simp <;> omega) ?_
       intro v6 w6 hR6 hb6 hg6 hat6
       obtain ⟨A6, c6, hv6⟩ := Kd.R_slice hR6
       subst hv6
       obtain ⟨b26, hQ6⟩ := hQd.mark hVs.out hgV.out hg6 hR6 hb6
       have hr6 : SR w6 w.heap.size _ r := R_off hrd (Keep.grown hg6) (Off.row hQd.acc (by decide))
       obtain ⟨a9, e9, k9⟩ := at_mark (Kd.C_below hA hb6) sx hsa
       cases e9
       refine hK.out _ _ ⟨(blk_cell b26 2).trans rfl, by have h := (Keep.grown hg6).obj hQd.bP (off_ne hQd.bP (Off.row hQd.acc (by decide))); exact (blk_cell h 2).trans rfl, by rw [k9, hbx.out]⟩ (fun hHeld => ?_)
       clear hK K
       refine norm_ (a' := ?_) ?_ ?_
       rotate_left
       ·show Act.put _ (some 148) _ = _
        simp only [Act.put, Za, Zb, Zc, i64_w, i32_w]
        rfl
       refine pure_ (i := 11) (N := some 149) (v := ?_) (a' := ?_) (zb 13 4095) rfl rfl (by kernel_rfl) (fun _ _ _ h => h) (Or.inl ⟨by rfl, ?_⟩) ?_ ?_
       rotate_left
       ·intro w'
        go_simp
        with_reducible rfl
       rotate_left
       ·simp only [Act.put, Za, Zb, Zc, i64_w, i32_w]
        rfl
       refine last_ (i := 12) (N := none) (zb 13 8191) rfl rfl (by kernel_rfl) (by decide) (fun K hK => ?_)
       have hf6 : w6.frozen? ⟨gV, 2, none⟩ = false := blk_frozen b26 2
       have hc6 : w6.cell? ⟨gV, 2, none⟩ = some vA := (blk_cell b26 2).trans rfl
       refine skip_ (w1 := w6.setCell ⟨gV, 2, none⟩ (.slice A6 (((li.take i).map (fun x => accs.getD (x / size) false)) ++ [bx]).length c6)) (by rfl) rfl (by first | (go_simp; done) | (go_simp; rfl)) ?_
       refine hK.out _ _ ?_
       clear hK K
       refine done_ (by kernel_rfl) ?_
       have hr7 : SR (w6.setCell ⟨gV, 2, none⟩ (.slice A6 (((li.take i).map (fun x => accs.getD (x / size) false)) ++ [bx]).length c6)) w.heap.size _ r := R_off hr6 (Keep.set w6 ⟨gV, 2, none⟩ _) (Off.cells b26 (by decide))
       clear hSS hQd hrd hQ5 hf6 hc6 b26 hr6 hR6 hb6 hg6 hHeld k9 hQ hr
       generalize w6.setCell ⟨gV, 2, none⟩ (.slice A6 (((li.take i).map (fun x => accs.getD (x / size) false)) ++ [bx]).length c6) = w7 at *
       have c3 : w7.cell? ⟨gV, 3, none⟩ = some vN := (blk_cell hQ6.bV 3).trans rfl
       obtain ⟨g0, cap, ev, hg0, hg1, _⟩ := Kd.R_form hr7 (by have := hrc.out; omega)
       cases ev
       have hrcw := hrc.out
       rw [hrcw] at hr7
       simp only [hrcw]
       have hfr3 := hfr.out g0 rfl
       have hfr4 := Aside0.mk hfr3
       clear hfr3 hfr
       have hrc2 := Aside0.mk hrcw
       have hhl : hs.length = i := by rw [hQ6.len]; exact hrl.out
       have hhl2 := Aside0.mk hhl
       clear hrcw hhl
       go_wp2_with ((with_reducible refine gate_builtin (b := .append) (xs := #[.tmp 151, .tmp 153]) rfl ?_); go_loud (at_builtin; refine R_append' (hk wd) (w0 := w) w.heap.size rfl (.tmp 151) (.tmp 153) 23 75 (.slice none 0 0) 24 rfl Tryd.underlying23 info_longs rfl (show 0 < 1 from Nat.one_pos) (by decide) vN hs (g0, cr) [.slice (some ⟨g0, 0, none⟩) wd cr] (fun _ => True) (fun _ => False) _ (by simp) rfl rfl rfl (fun _ h => h.elim) (fun _ _ => trivial) hQ6.out hQ6.bel (Below.size hQ6.bel) (by have := hhl2.out; omega) ?_; intro v8 w8 hR8 hb8 hg8 hat8; obtain ⟨A8, c8, hv8⟩ := Kd.R_slice hR8; have ev8 : (hs ++ [(g0, cr)]).length = hs.length + 1 := (by simp); rw [ev8] at hv8; clear ev8; subst hv8; obtain ⟨b8, hQ8⟩ := hQ6.row hVs.out hgV.out hg8 hR8 hb8 hr7 ⟨hfr4.out.1, hfr4.out.2.1⟩ hfr4.out.2.2; have c83 : w8.cell? ⟨gV, 3, none⟩ = some vN := (blk_cell b8 3).trans rfl; have f83 : w8.frozen? ⟨gV, 3, none⟩ = false := blk_frozen b8 3))
       go_roundg (NN - (i + 1))
       case measure => have := hkq.out; omega
       case rel => exact ⟨i + 1, li2, tab2, some a7, c7, _, _, hs ++ [(g0, cr)], rws ++ [r], rfl, (by go_num), ⟨by simp⟩, by omega, hTab, ⟨by rw [hlm.out]; exact get_app m hli0.out⟩, ⟨by simp [hrl.out]⟩, ⟨fun q hq => (List.mem_append.1 hq).elim (hrw.out q) (fun h => by rw [List.mem_singleton.1 h]; exact hrc2.out)⟩, ⟨oks_step hlm.out hrl.out hlt hxi.out hok.out hro.out⟩, ⟨by rw [take_step hlm.out hlt hxi.out, List.map_append, List.map_singleton, hsx2.out, List.getD_eq_getElem?_getD (l := accs), List.getElem?_eq_getElem hsa, Option.getD_some, hbx.out]; exact hQ8⟩⟩
    ·have hii : i = li.length := by omega
     subst hii
     have hlt1 : ((li.length : Int) < (li.length : Int)) = False := eq_false (by omega)
     have hli := hTab.out.le
     have hhl : hs.length = li.length := by rw [hR.len]; exact hrl.out
     obtain ⟨AN2, cN2, rfl⟩ := Kd.R_slice hR.out
     rw [hhl] at hR
     have hhl2 := Aside0.mk hhl
     clear hhl
     go_wp2_with fail
     go_loopg [16] li.length (fun kq v16 wr => ∃ k : Nat, v16 = .int .i64 (k : Int) ∧ Aside0 (kq = li.length - k) ∧ k ≤ li.length ∧ Aside0 (Rt w gp #[.int .i64 tapes, .int .i64 start, .slice AA accs.length ca, .slice AN rows.length cn] tapes gV (.slice (some ⟨gT, 0, none⟩) NN cT) tab (.slice A7 li.length c7) (ints li) vA ((li.take li.length).map (fun x => accs.getD (x / size) false)) (.slice AN2 li.length cN2) hs (fixTo li.length k rws) wd wr))
     case atStart => exact ⟨0, rfl, ⟨by simp⟩, Nat.zero_le _, ⟨by simpa [fixTo] using hR⟩⟩
     case round =>
      clear hR
      obtain ⟨wb, rfl⟩ : ∃ wb : World, wb = wr := ⟨_, rfl⟩
      obtain ⟨k, rfl, hkk, hkl, hB⟩ := hrel
      replace hB := hB.out
      have c3 : wb.cell? ⟨gV, 3, none⟩ = some (.slice AN2 li.length cN2) := (blk_cell hB.bV 3).trans rfl
      by_cases hkt : k < li.length
      ·have hlt2 : ((k : Int) < (li.length : Int)) = True := eq_true (by omega)
       have h0k : (0 ≤ (k : Int)) = True := eq_true (by omega)
       have hk1 : k < hs.length := by rw [hhl2.out]; exact hkt
       have hk2 : k < rws.length := by rw [hrl.out]; exact hkt
       obtain ⟨a, ha⟩ : ∃ a, hs[k]? = some a := ⟨_, List.getElem?_eq_getElem hk1⟩
       obtain ⟨r, hr⟩ : ∃ r, rws[k]? = some r := ⟨_, List.getElem?_eq_getElem hk2⟩
       have hrw2 : Aside0 (r.length = wd) := ⟨hrw.out r (List.mem_of_getElem? hr)⟩
       have hag : Aside0 (w.heap.size ≤ a.1) := ⟨(row_blk (hB.inn k a _ ha (fixTo_get hr)) (by have := hrw2.out; omega)).1⟩
       have ha2 := Aside0.mk ha
       have hr2 := Aside0.mk hr
       have hst0 : rowTo li.length 0 r = r := by simp [rowTo]
       have hB0 : (fixTo li.length k rws).set k (rowTo li.length 0 r) = fixTo li.length k rws := by
        rw [hst0]
        have h := fixTo_get (L := li.length) hr
        obtain ⟨h1, h2⟩ := List.getElem?_eq_some_iff.1 h
        rw [← h2]
        exact List.set_getElem_self h1
       have hB1 := Aside0.mk hB0
       clear hB0 hst0 ha hr hk1 hk2
       go_wp2_with fail
       clear c3
       go_loopg [17] wd (fun kq v17 wq => ∃ c : Nat, v17 = .int .i64 (c : Int) ∧ Aside0 (kq = wd - c) ∧ c ≤ wd ∧ Aside0 (Rt w gp #[.int .i64 tapes, .int .i64 start, .slice AA accs.length ca, .slice AN rows.length cn] tapes gV (.slice (some ⟨gT, 0, none⟩) NN cT) tab (.slice A7 li.length c7) (ints li) vA ((li.take li.length).map (fun x => accs.getD (x / size) false)) (.slice AN2 li.length cN2) hs ((fixTo li.length k rws).set k (rowTo li.length c r)) wd wq))
       case atStart => exact ⟨0, rfl, ⟨by simp⟩, Nat.zero_le _, ⟨by rw [hB1.out]; exact hB⟩⟩
       case round =>
        obtain ⟨c, rfl, hkc, hcw, hQ⟩ := hrel
        replace hQ := hQ.out
        obtain ⟨an, rfl, kh⟩ := hQ.head ha2.out
        unfold encH at kh
        have c3 : wr.cell? ⟨gV, 3, none⟩ = some (.slice (some an) li.length cN2) := (blk_cell hQ.bV 3).trans rfl
        by_cases hcl : c < wd
        ·have hcr : c < r.length := by rw [hrw2.out]; exact hcl
         have hk3 : k < (fixTo li.length k rws).length := by rw [fixTo_length]; exact (List.getElem?_eq_some_iff.1 hr2.out).1
         have hset : ((fixTo li.length k rws).set k (rowTo li.length c r))[k]? = some (rowTo li.length c r) := List.getElem?_set_self hk3
         have hrow := hQ.inn k a _ ha2.out hset
         have ke := sr_at hrow (i := c) (by rw [rowTo_length]; exact hcr)
         rw [rowTo_get hcr] at ke
         obtain ⟨_, cells, hcell⟩ := row_blk hrow (by rw [rowTo_length]; omega)
         have fe : wr.frozen? ⟨a.1, c, none⟩ = false := blk_frozen hcell c
         have hcl1 : ((c : Int) < (wd : Int)) = True := eq_true (by omega)
         have h0c : (0 ≤ (c : Int)) = True := eq_true (by omega)
         by_cases hneg : r[c] < 0
         ·have hQ2 := hQ.fix ha2.out hset hag.out c (li.length : Int)
          have e5 : (rowTo li.length c r).set c (li.length : Int) = rowTo li.length (c + 1) r := by
           rw [rowTo_step hcr]
           unfold fixE
           rw [if_pos hneg]
          rw [List.set_set, e5] at hQ2
          have hn1 : (r[c] < 0) = True := eq_true hneg
          clear hset hrow hcell cells e5 hneg hk3
          generalize r[c] = ec at *
          clear hcr
          go_wp2_with fail
          go_roundg (wd - (c + 1))
          case measure => have := hkc.out; omega
          case rel => exact ⟨c + 1, (by go_num), ⟨by simp⟩, by omega, ⟨hQ2⟩⟩
         ·have hn1 : (r[c] < 0) = False := eq_false hneg
          rw [← rowTo_same hcr (by omega)] at hQ
          clear hset hrow hcell cells hneg hk3
          generalize r[c] = ec at *
          clear hcr
          go_wp2_with fail
          go_roundg (wd - (c + 1))
          case measure => have := hkc.out; omega
          case rel => exact ⟨c + 1, (by go_num), ⟨by simp⟩, by omega, ⟨hQ⟩⟩
        ·have hcc : c = wd := by omega
         subst hcc
         have hlt3 : ((c : Int) < (c : Int)) = False := eq_false (by omega)
         have hfin : (fixTo li.length k rws).set k (rowTo li.length c r) = fixTo li.length (k + 1) rws := by
          rw [← fixTo_set hr2.out]
          congr 1
          unfold rowTo
          rw [List.take_of_length_le (Nat.le_of_eq hrw2.out), List.drop_of_length_le (Nat.le_of_eq hrw2.out), List.append_nil]
         rw [hfin] at hQ
         clear hfin
         go_wp2_with fail
         go_roundg (li.length - (k + 1))
         case measure => have := hkk.out; omega
         case rel => exact ⟨k + 1, (by go_num), ⟨by simp⟩, by omega, ⟨hQ⟩⟩
      ·have hkk2 : k = li.length := by omega
       subst hkk2
       have hlt2 : ((li.length : Int) < (li.length : Int)) = False := eq_false (by omega)
       have hB2 := hB.step (below_alloc (Below.refl _ _) (.cells #[] 2))
       have hr6 := sr_zero wb w.heap.size (Below.size hB.bel)
       have hcl0 : Clear (.slice (some ⟨wb.heap.size, 0, none⟩) 0 0) (.slice (some ⟨gT, 0, none⟩) NN cT) (.slice A7 li.length c7) hs := by
        intro k hk
        cases hk
        exact ⟨fun e => by have := Kd.R_lt hB.tab _ e.symm; simp only at this; omega, fun e => by have := Kd.R_lt hB.lst _ e.symm; simp only at this; omega, fun h hh e => absurd (hB.lt hh hB.len) (by rw [e]; exact Nat.lt_irrefl _)⟩
       go_wp2_with fail
       clear c3
       go_loopg [18, 19] wd (fun kq v18 v19 wq => ∃ (c : Nat) (Ar : Option Addr) (cr : Nat), v18 = .slice Ar c cr ∧ v19 = .int .i64 (c : Int) ∧ Aside0 (kq = wd - c) ∧ c ≤ wd ∧ Aside0 (Clear (.slice Ar c cr) (.slice (some ⟨gT, 0, none⟩) NN cT) (.slice A7 li.length c7) hs) ∧ Aside0 (SR wq w.heap.size (.slice Ar c cr) (List.replicate c (li.length : Int))) ∧
        Aside0 (Rt w gp #[.int .i64 tapes, .int .i64 start, .slice AA accs.length ca, .slice AN rows.length cn] tapes gV (.slice (some ⟨gT, 0, none⟩) NN cT) tab (.slice A7 li.length c7) (ints li) vA ((li.take li.length).map (fun x => accs.getD (x / size) false)) (.slice AN2 li.length cN2) hs (fixTo li.length li.length rws) wd wq))
       case atStart => exact ⟨0, _, _, rfl, rfl, ⟨by simp⟩, Nat.zero_le _, ⟨hcl0⟩, ⟨hr6⟩, ⟨hB2⟩⟩
       case round =>
        clear hcl0 hr6 hB2 hB
        obtain ⟨c, Ar, cr, rfl, rfl, hkc, hcw, hfr, hr, hQ⟩ := hrel
        replace hQ := hQ.out
        replace hr := hr.out
        have e0 : wr.cell? ⟨gp, 0, none⟩ = some (.int .i64 tapes) := (blk_cell hQ.bP 0).trans rfl
        by_cases hc : c < wd
        ·have hlt3 : ((c : Int) < (wd : Int)) = True := eq_true (by omega)
         go_wp2_with (first
          | (go_at_call 53; (with_reducible refine (hwide _).mono ?_); rintro e w4 ⟨rfl, hb4⟩; replace hQ := hQ.step hb4; replace hr := Kd.R_below hr hb4; clear e0)
          | ((with_reducible refine gate_builtin (b := .append) (xs := #[.tmp 202, .tmp 204]) rfl ?_); go_loud (at_builtin; refine R_append' (Kd.int .i64) (w0 := w) w.heap.size rfl (.tmp 202) (.tmp 204) 75 2 (.int .i64 0) 8 rfl Tryd.underlying75 info_long rfl (by decide) (by decide) (.slice Ar c cr) (List.replicate c (li.length : Int)) (li.length : Int) [.int .i64 (li.length : Int)] (fun _ => True) (fun _ => False) _ (by simp) rfl rfl rfl (fun _ h => h.elim) (fun _ _ => trivial) hr hQ.bel (Below.size hQ.bel) (by simp <;> omega) ?_; intro v6 w6 hR6 hb6 hg6 hat6; obtain ⟨A6, c6, hv6⟩ := Kd.R_slice hR6; have ev : (List.replicate c (li.length : Int) ++ [(li.length : Int)]).length = c + 1 := (by simp); rw [ev] at hv6; clear ev; subst hv6; obtain ⟨hQ6, hf6⟩ := hQ.app hr hfr.out hg6 hat6 hb6; rw [← List.replicate_succ'] at hR6)))
         go_roundg (wd - (c + 1))
         case measure => have := hkc.out; omega
         case rel => exact ⟨c + 1, A6, c6, rfl, (by go_num), ⟨by simp⟩, by omega, ⟨hf6⟩, ⟨hR6⟩, ⟨hQ6⟩⟩
        ·have hcc : c = wd := by omega
         subst hcc
         have hlt3 : ((c : Int) < (c : Int)) = False := eq_false (by omega)
         rw [List.take_length] at hQ
         obtain ⟨A2, cA2, rfl⟩ := Kd.R_slice hQ.acc
         rw [List.length_map] at hQ
         obtain ⟨g0, cap, ev, hg0, _, _⟩ := Kd.R_form hr (by simp; omega)
         rw [List.length_replicate] at ev
         cases ev
         have hfr3 := Aside0.mk (hfr.out g0 rfl)
         go_wp2_with (first
          | (go_at_call 53; (with_reducible refine (hwide _).mono ?_); rintro e w4 ⟨rfl, hb4⟩; replace hQ := hQ.step hb4; replace hr := Kd.R_below hr hb4; clear e0; have c2 : w4.cell? ⟨gV, 2, none⟩ = some (.slice A2 li.length cA2) := (blk_cell hQ.bV 2).trans rfl)
          | ((with_reducible refine gate_builtin (b := .append) (xs := #[.tmp 207, .tmp 208]) rfl ?_); go_loud (at_builtin; refine R_append' Kd.bool (w0 := w) w.heap.size rfl (.tmp 207) (.tmp 208) 22 4 (.bool false) 1 rfl Tryd.underlying22 GwI.info_bool rfl (by decide) (by decide) (.slice A2 li.length cA2) (li.map (fun x => accs.getD (x / size) false)) false [.bool false] (fun _ => True) (fun _ => False) _ (by simp) rfl rfl rfl (fun _ h => h.elim) (fun _ _ => trivial) hQ.acc hQ.bel (Below.size hQ.bel) (by rw [List.length_map]; omega) ?_; intro v6 w6 hR6 hb6 hg6 hat6; obtain ⟨A6, c6, hv6⟩ := Kd.R_slice hR6; have ev : (li.map (fun x => accs.getD (x / size) false) ++ [false]).length = li.length + 1 := (by simp); rw [ev] at hv6; clear ev; subst hv6; obtain ⟨b26, hQ6⟩ := hQ.mark hVs.out hgV.out hg6 hR6 hb6; have hr6 : SR w6 w.heap.size _ _ := R_off hr (Keep.grown hg6) (Off.row hQ.acc (by decide)); have hr7 : SR (w6.setCell ⟨gV, 2, none⟩ (.slice A6 (li.length + 1) c6)) w.heap.size _ _ := R_off hr6 (Keep.set w6 ⟨gV, 2, none⟩ _) (Off.cells b26 (by decide)); have c26 : w6.cell? ⟨gV, 2, none⟩ = some (.slice A2 li.length cA2) := (blk_cell b26 2).trans rfl; have f26 : w6.frozen? ⟨gV, 2, none⟩ = false := blk_frozen b26 2; have c33 : (w6.setCell ⟨gV, 2, none⟩ (.slice A6 (li.length + 1) c6)).cell? ⟨gV, 3, none⟩ = some (.slice AN2 li.length cN2) := (blk_cell hQ6.bV 3).trans rfl))
          | ((with_reducible refine gate_builtin (b := .append) (xs := #[.tmp 212, .tmp 214]) rfl ?_); go_loud (at_builtin; refine R_append' (hk c) (w0 := w) w.heap.size rfl (.tmp 212) (.tmp 214) 23 75 (.slice none 0 0) 24 rfl Tryd.underlying23 info_longs rfl (show 0 < 1 from Nat.one_pos) (by decide) (.slice AN2 li.length cN2) hs (g0, cr) [.slice (some ⟨g0, 0, none⟩) c cr] (fun _ => True) (fun _ => False) _ (by simp) rfl rfl rfl (fun _ h => h.elim) (fun _ _ => trivial) hQ6.out hQ6.bel (Below.size hQ6.bel) (by have := hhl2.out; omega) ?_; intro v8 w8 hR8 hb8 hg8 hat8; obtain ⟨A8, c8, hv8⟩ := Kd.R_slice hR8; have ev8 : (hs ++ [(g0, cr)]).length = li.length + 1 := (by simp [hhl2.out]); rw [ev8] at hv8; clear ev8; subst hv8; obtain ⟨b8, hQ8⟩ := hQ6.row hVs.out hgV.out hg8 hR8 hb8 hr7 ⟨hfr3.out.1, hfr3.out.2.1⟩ hfr3.out.2.2; have c83 : w8.cell? ⟨gV, 3, none⟩ = some (.slice AN2 li.length cN2) := (blk_cell b8 3).trans rfl; have f83 : w8.frozen? ⟨gV, 3, none⟩ = false := blk_frozen b8 3; have d0 : (w8.setCell ⟨gV, 3, none⟩ (.slice A8 (li.length + 1) c8)).cell? ⟨gV, 0, none⟩ = some (.int .i64 tapes) := (blk_cell hQ8.bV 0).trans rfl; have d1 : (w8.setCell ⟨gV, 3, none⟩ (.slice A8 (li.length + 1) c8)).cell? ⟨gV, 1, none⟩ = some (.int .i64 0) := (blk_cell hQ8.bV 1).trans rfl; have d2 : (w8.setCell ⟨gV, 3, none⟩ (.slice A8 (li.length + 1) c8)).cell? ⟨gV, 2, none⟩ = some (.slice A6 (li.length + 1) c6) := (blk_cell hQ8.bV 2).trans rfl; have d3 : (w8.setCell ⟨gV, 3, none⟩ (.slice A8 (li.length + 1) c8)).cell? ⟨gV, 3, none⟩ = some (.slice A8 (li.length + 1) c8) := (blk_cell hQ8.bV 3).trans rfl; have e0 : (w8.setCell ⟨gV, 3, none⟩ (.slice A8 (li.length + 1) c8)).cell? ⟨w.heap.size, 0, none⟩ = some (.int .i64 0) := (blk_cell hQ8.bR 0).trans rfl; have f0 : (w8.setCell ⟨gV, 3, none⟩ (.slice A8 (li.length + 1) c8)).frozen? ⟨w.heap.size, 0, none⟩ = false := blk_frozen hQ8.bR 0; have e1 : (w8.setCell ⟨gV, 3, none⟩ (.slice A8 (li.length + 1) c8)).cell? ⟨w.heap.size, 1, none⟩ = some (.int .i64 0) := (blk_cell hQ8.bR 1).trans rfl; have f1 : (w8.setCell ⟨gV, 3, none⟩ (.slice A8 (li.length + 1) c8)).frozen? ⟨w.heap.size, 1, none⟩ = false := blk_frozen hQ8.bR 1; have e2 : (w8.setCell ⟨gV, 3, none⟩ (.slice A8 (li.length + 1) c8)).cell? ⟨w.heap.size, 2, none⟩ = some (.slice none 0 0) := (blk_cell hQ8.bR 2).trans rfl; have f2 : (w8.setCell ⟨gV, 3, none⟩ (.slice A8 (li.length + 1) c8)).frozen? ⟨w.heap.size, 2, none⟩ = false := blk_frozen hQ8.bR 2; have e3 : (w8.setCell ⟨gV, 3, none⟩ (.slice A8 (li.length + 1) c8)).cell? ⟨w.heap.size, 3, none⟩ = some (.slice none 0 0) := (blk_cell hQ8.bR 3).trans rfl; have f3 : (w8.setCell ⟨gV, 3, none⟩ (.slice A8 (li.length + 1) c8)).frozen? ⟨w.heap.size, 3, none⟩ = false := blk_frozen hQ8.bR 3)))
         have b := hQ8.bR
         have b1 := blk_put b 0 (.int .i64 tapes) rfl
         have b2 := blk_put b1 1 (.int .i64 0) rfl
         have b3 := blk_put b2 2 (.slice A6 (li.length + 1) c6) rfl
         have b5 := blk_put b3 3 (.slice A8 (li.length + 1) c8) rfl
         refine bodyPost_ret (results_cell_row rfl _ _ (w.heap.size) 27 #[.int .i64 tapes, .int .i64 0, .slice A6 (li.length + 1) c6, .slice A8 (li.length + 1) c8] (0, 0) _ rfl b5 Tryd.underlying27 rfl (by kernel_rfl)) rfl ⟨_, _, li, rws, rfl, ?_, ?_, by rw [hS02.out]; exact hli0.out, hrl.out, hrw.out, hok.out, fun x hx => by rw [hNN2.out]; exact hTab.out.lt x hx, by rw [hNN2.out]; exact hTab.out.le, ?_⟩
         ·exact Kd.R_set (Kd.R_set (Kd.R_set (Kd.R_set hQ8.acc b (by decide) 0 _) b1 (by decide) 1 _) b2 (by decide) 2 _) b3 (by decide) 3 _
         ·exact Kd.R_set (Kd.R_set (Kd.R_set (Kd.R_set hQ8.rows b (by decide) 0 _) b1 (by decide) 1 _) b2 (by decide) 2 _) b3 (by decide) 3 _
         ·exact (((hQ8.bel.setCell (Nat.le_refl _) _).setCell (Nat.le_refl _) _).setCell (Nat.le_refl _) _).setCell (Nat.le_refl _) _
end Go.Proofs.YtnjdkhnepmmfgaaDoor.Rg
namespace Go.Proofs.YtnjdkhnepmmfgaaDoor.Tw
set_option linter.unusedVariables false
set_option linter.unusedSimpArgs false
open Go.RowKit Go.Proofs.YtnjdkhnepmmfgaaDoorW.PrintWords Go.Proofs.YtnjdkhnepmmfgaaDoorW.PrintLast Go.Proofs.YtnjdkhnepmmfgaaDoorW.PrintMore Mp Kp Mg Tdy Rg
def grpTo (accs : List Bool) (i : Nat) : List Nat := (first accs).take i ++ List.replicate (accs.length - i) 0
theorem grpTo_length (accs : List Bool) {i : Nat} (h : i ≤ accs.length) : (grpTo accs i).length = accs.length := by
 have : (first accs).length = accs.length := by simp [first]
 unfold grpTo
 rw [List.length_append, List.length_take, List.length_replicate]
 omega
theorem grpTo_all (accs : List Bool) : grpTo accs accs.length = first accs := by
 have : (first accs).length = accs.length := by simp [first]
 unfold grpTo
 rw [List.take_of_length_le (by omega)]
 simp
theorem first_len (accs : List Bool) : (first accs).length = accs.length := by simp [first]
theorem grpTo_zero (accs : List Bool) : grpTo accs 0 = List.replicate accs.length 0 := by simp [grpTo]
theorem grpTo_step (accs : List Bool) {i : Nat} (hi : i < accs.length) : grpTo accs (i + 1) = if accs[i] then (grpTo accs i).set i 1 else grpTo accs i := first_step accs hi rfl
def kyF (g : List Nat) (q : Nat) : Nat := g.getD q 0
def nxF (rows : List (List Nat)) (q c : Nat) : Nat := (rows.getD q []).getD c 0
def acF (accs : List Bool) (q : Nat) : Bool := accs.getD q false
theorem nxF_get {rows : List (List Nat)} {q c : Nat} (h : q < rows.length) (h2 : c < rows[q].length) : nxF rows q c = rows[q][c] := by simp [nxF, List.getD_eq_getElem?_getD, h, h2]
theorem kyF_get {g : List Nat} {q : Nat} (h : q < g.length) : kyF g q = g[q] := by simp [kyF, List.getD_eq_getElem?_getD, h]
theorem acF_get {accs : List Bool} {q : Nat} (h : q < accs.length) : acF accs q = accs[q] := by simp [acF, List.getD_eq_getElem?_getD, h]
theorem tab_find {key : Nat → Nat} {N : Nat} {li : List Nat} {tab : List Int} (h : Tab N (li.map key) tab) {t : Nat} (ht : key t < N) :
  (find key (key t) li = none ∧ tab[key t]? = some (-1) ∧ key t ∉ li.map key) ∨ ∃ j : Nat, find key (key t) li = some j ∧ tab[key t]? = some (j : Int) ∧ j < li.length := by
 rcases h.at_ _ ht with ⟨h1, h2⟩ | ⟨j, h1, h2⟩
 ·refine .inl ⟨?_, h1, h2⟩
  cases hf : find key (key t) li with
  | none => rfl
  | some j =>
   obtain ⟨hj, e⟩ := find_some hf
   exact absurd (List.mem_map.2 ⟨li[j], List.getElem_mem hj, e⟩) h2
 ·refine .inr ⟨j, ?_, h1, ?_⟩
  ·cases hf : find key (key t) li with
   | none =>
    obtain ⟨s, hs, e⟩ := List.mem_map.1 (List.mem_of_getElem? h2)
    exact absurd e (find_none hf s hs)
   | some j' =>
    obtain ⟨hj, e⟩ := find_some hf
    obtain ⟨hjl, e2⟩ := List.getElem?_eq_some_iff.1 h2
    have hnd := List.pairwise_iff_getElem.1 h.nodup
    have e3 : (li.map key)[j']'(by rw [List.length_map]; exact hj) = (li.map key)[j] := by rw [e2, List.getElem_map]; exact e
    rcases Nat.lt_trichotomy j' j with hlt | heq | hlt
    ·exact absurd e3 (hnd j' j (by rw [List.length_map]; exact hj) hjl hlt)
    ·rw [heq]
    ·exact absurd e3.symm (hnd j j' hjl (by rw [List.length_map]; exact hj) hlt)
  ·have := (List.getElem?_eq_some_iff.1 h2).1
   rwa [List.length_map] at this
theorem tab_push {key : Nat → Nat} {N : Nat} {li : List Nat} {tab : List Int} (h : Tab N (li.map key) tab) {t : Nat} (ht : key t < N) (hn : key t ∉ li.map key) : Tab N ((li ++ [t]).map key) (tab.set (key t) (li.length : Int)) := by
 have := h.push ht hn
 rwa [List.length_map, ← List.map_singleton, ← List.map_append] at this
theorem tab_le {key : Nat → Nat} {N : Nat} {li : List Nat} {tab : List Int} (h : Tab N (li.map key) tab) : li.length ≤ N := by
 have := h.le
 rwa [List.length_map] at this
theorem S_off {α : Type} {d : Kd α} {e : Nat} {W W' : World} {base : Nat} {ok : Nat → Prop} {v : Value} {xs : List α} {x : Option Nat} (h : Kd.S d e W base ok v xs) (hk : Keep W W' x) (ho : Off W x (e :: d.E)) : Kd.S d e W' base ok v xs :=
 Kd.S_mono (Kd.S_move (Kd.S_bound h) (fun k hk' => hk.blk k hk'.2.2.1 (fun he => by
  obtain ⟨_, _, _, q, hq, cells, hc⟩ := hk'
  exact ho k he.symm cells q hq hc))) (fun _ hk => hk.1)
theorem S_keepx {α : Type} {d : Kd α} {e : Nat} {W W' : World} {base : Nat} {ok : Nat → Prop} {v : Value} {xs : List α} {x : Option Nat} (h : Kd.S d e W base (fun k => ok k ∧ some k ≠ x) v xs) (hk : Keep W W' x) : Kd.S d e W' base (fun k => ok k ∧ some k ≠ x) v xs :=
 Kd.S_step h (fun k hk' hlt => hk.blk k hlt hk'.2)
theorem S_append' {P : Program} {ops : Array Oper} {rest : List Oper} {o : Oper} {a : Act} {Q : Exit → Act → World → Prop} {α : Type} (d : Kd α) {w0 W : World} (base : Nat) (hgd : o.guard = none) (s x : Operand) (t e : TypeId) (z : Value) (bytes : Nat)
  (ho : o.op = .call { callee := .builtin .append, args := #[s, x], argTypes := #[t, t] })
  (ht : P.underlying t = some (.slice e)) (hinfo : (P.info? e).map (fun i => (i.zero, i.size, i.bytes)) = some (some z, d.sz, bytes)) (hz : z.cells.size = d.sz) (hs0 : 0 < d.sz) (hb0 : 0 < bytes)
  (v : Value) (xs : List α) (p : α) (cs : List Value) (ok okp : Nat → Prop) (b : Nat) (hbs : b = W.heap.size) (hs : a.eval s = v) (hx : a.eval x = .slice (some ⟨b, 0, none⟩) 1 1) (hp : d.M W base okp p cs) (hokp : ∀ k, okp k → ok k ∧ some k ≠ v.ownBlock) (hfresh : ∀ k, W.heap.size ≤ k → ok k)
  (HO : Kd.S d e W base (fun k => ok k ∧ ¬ okp k) v xs) (HB : Below base w0 W) (hbase : base ≤ W.heap.size) (hl : (xs.length + 1) * bytes ≤ 140737488355328)
  (h : ∀ v1 w1, Kd.S d e w1 base ok v1 (xs ++ [p]) → Below base w0 w1 → W.grownBy w1 v.ownBlock → (v1.ownBlock = v.ownBlock ∨ ∃ b, v1.ownBlock = some b ∧ W.heap.size ≤ b) → wpList P ops Q rest (a.put o.dst v1) w1) :
  wpList P ops Q (o :: rest) a (W.alloc (.cells cs.toArray e)) := by
 subst hbs
 exact Kd.S_append d base hgd s x t e z bytes ho ht hinfo hz hs0 hb0 v xs p cs ok okp hs hx hp hokp hfresh HO HB hbase hl h
/-- What stands in memory while the machine is made: the new relation, the table, the list, the row. All of it is newer than w0. -/
structure Tt (w0 : World) (tapes : Int) (gV gT nT cT : Nat) (tab : List Int) (vL : Value) (li : List Nat) (vr : Value) (r : List Nat) (vA : Value) (bs : List Bool) (vN : Value) (rws : List (List Nat)) (W : World) : Prop where
 bV : W.heap[gV]? = some (.cells #[.int .i64 tapes, .int .i64 0, vA, vN] 27 (0, 0))
 tab : SR W w0.heap.size (.slice (some ⟨gT, 0, none⟩) nT cT) tab
 lst : SR W w0.heap.size vL (ints li)
 row : SR W w0.heap.size vr (ints r)
 acc : Kd.R Kd.bool 4 W w0.heap.size (fun _ => True) vA bs
 out : Kd.S (Kd.slice 2 (Kd.int .i64)) 75 W w0.heap.size (fun k => k ≠ gT ∧ some k ≠ vL.ownBlock ∧ some k ≠ vr.ownBlock) vN (rws.map ints)
 tl : some gT ≠ vL.ownBlock
 tr : some gT ≠ vr.ownBlock
 lr : ∀ k, vL.ownBlock = some k → some k ≠ vr.ownBlock
 hV : w0.heap.size ≤ gV
 bel : Below w0.heap.size w0 W
section
variable {w0 : World} {tapes : Int} {gV gT nT cT : Nat} {tab : List Int} {vL : Value} {li : List Nat} {vr : Value} {r : List Nat} {vA : Value} {bs : List Bool} {vN : Value} {rws : List (List Nat)} {W W' : World}
theorem Tt.step (h : Tt w0 tapes gV gT nT cT tab vL li vr r vA bs vN rws W) (hb : Below W.heap.size W W') : Tt w0 tapes gV gT nT cT tab vL li vr r vA bs vN rws W' :=
 ⟨blk_below h.bV hb, Kd.R_below h.tab hb, Kd.R_below h.lst hb, Kd.R_below h.row hb, Kd.R_below h.acc hb, Kd.S_below h.out hb, h.tl, h.tr, h.lr, h.hV, below_step h.bel hb⟩
/-- The table is written. -/
theorem Tt.set (h : Tt w0 tapes gV gT nT cT tab vL li vr r vA bs vN rws W) (hg : w0.heap.size ≤ gT) (i : Nat) (x : Int) : Tt w0 tapes gV gT nT cT (tab.set i x) vL li vr r vA bs vN rws (W.setCell ⟨gT, i, none⟩ (.int .i64 x)) := by
 have hk := Keep.set W ⟨gT, i, none⟩ (.int .i64 x)
 have hy : ∀ E : List Nat, (∀ q ∈ E, q ≠ 2) → Off W (some gT) E := fun E hE => Off.row h.tab hE
 have ho := S_keepx (x := some gT) (ok := fun k => k ≠ gT ∧ some k ≠ vL.ownBlock ∧ some k ≠ vr.ownBlock) (Kd.S_mono h.out (fun k hk => ⟨hk, fun e => hk.1 (Option.some.inj e)⟩)) hk
 exact ⟨hk.obj h.bV (off_ne h.bV (hy _ (by decide))), Kd.R_putn h.tab (i : Int) x, h.lst.move hk (fun k e e2 => by cases e2; exact h.tl e.symm), h.row.move hk (fun k e e2 => by cases e2; exact h.tr e.symm), R_off h.acc hk (hy _ (by decide)), Kd.S_mono ho (fun k hk => hk.1), h.tl, h.tr, h.lr, h.hV, h.bel.setCell hg _⟩
/-- A block of numbers that is written is none of the others. -/
theorem Tt.out_after (h : Tt w0 tapes gV gT nT cT tab vL li vr r vA bs vN rws W) {v v1 : Value} (hg : W.grownBy W' v.ownBlock) (hat : v1.ownBlock = v.ownBlock ∨ ∃ b, v1.ownBlock = some b ∧ W.heap.size ≤ b) {p : Nat → Prop} (hp : ∀ k, k ≠ gT ∧ some k ≠ vL.ownBlock ∧ some k ≠ vr.ownBlock → p k ∧ some k ≠ v.ownBlock) :
  Kd.S (Kd.slice 2 (Kd.int .i64)) 75 W' w0.heap.size (fun k => p k ∧ some k ≠ v1.ownBlock) vN (rws.map ints) := Kd.S_after (Kd.S_mono h.out hp) hg hat
/-- The list gets one more. -/
theorem Tt.push {v1 : Value} {x : Nat} (h : Tt w0 tapes gV gT nT cT tab vL li vr r vA bs vN rws W) (hgT : gT < W.heap.size) (hg : W.grownBy W' vL.ownBlock) (hat : v1.ownBlock = vL.ownBlock ∨ ∃ b, v1.ownBlock = some b ∧ W.heap.size ≤ b) (hR : SR W' w0.heap.size v1 (ints li ++ [(x : Int)])) (hb : Below w0.heap.size w0 W') : Tt w0 tapes gV gT nT cT tab v1 (li ++ [x]) vr r vA bs vN rws W' := by
 have hk := Keep.grown hg
 have hy : ∀ E : List Nat, (∀ q ∈ E, q ≠ 2) → Off W vL.ownBlock E := fun E hE => Off.row h.lst hE
 refine ⟨hk.obj h.bV (off_ne h.bV (hy _ (by decide))), h.tab.move hk (fun k e e2 => by cases e; exact h.tl e2), by simpa [ints, GwI.ints] using hR, h.row.move hk (fun k e e2 => h.lr k e2.symm e.symm), R_off h.acc hk (hy _ (by decide)), Kd.S_mono (h.out_after hg hat (p := fun k => k ≠ gT ∧ some k ≠ vr.ownBlock) (fun k hk => ⟨⟨hk.1, hk.2.2⟩, hk.2.1⟩)) (fun k hk => ⟨hk.1.1, hk.2, hk.1.2⟩), ne_after hat hgT h.tl, h.tr, fun k hk e => ?_, h.hV, hb⟩
 rcases hat with ha | ⟨b, ha, hbl⟩
 ·exact h.lr k (by rw [← ha]; exact hk) e
 ·rw [ha] at hk
  cases hk
  have := Kd.R_lt h.row _ e.symm
  omega
/-- The row gets one more. -/
theorem Tt.more {v1 : Value} {x : Nat} (h : Tt w0 tapes gV gT nT cT tab vL li vr r vA bs vN rws W) (hgT : gT < W.heap.size) (hg : W.grownBy W' vr.ownBlock) (hat : v1.ownBlock = vr.ownBlock ∨ ∃ b, v1.ownBlock = some b ∧ W.heap.size ≤ b) (hR : SR W' w0.heap.size v1 (ints r ++ [(x : Int)])) (hb : Below w0.heap.size w0 W') : Tt w0 tapes gV gT nT cT tab vL li v1 (r ++ [x]) vA bs vN rws W' := by
 have hk := Keep.grown hg
 have hy : ∀ E : List Nat, (∀ q ∈ E, q ≠ 2) → Off W vr.ownBlock E := fun E hE => Off.row h.row hE
 exact ⟨hk.obj h.bV (off_ne h.bV (hy _ (by decide))), h.tab.move hk (fun k e e2 => by cases e; exact h.tr e2), h.lst.move hk (fun k e e2 => h.lr k e e2), by simpa [ints, GwI.ints] using hR, R_off h.acc hk (hy _ (by decide)), Kd.S_mono (h.out_after hg hat (p := fun k => k ≠ gT ∧ some k ≠ vL.ownBlock) (fun k hk => ⟨⟨hk.1, hk.2.1⟩, hk.2.2⟩)) (fun k hk => ⟨hk.1.1, hk.1.2, hk.2⟩), h.tl, ne_after hat hgT h.tr, fun k hk => ne_after hat (Kd.R_lt h.lst _ hk) (h.lr k hk), h.hV, hb⟩
/-- A new row is begun. -/
theorem Tt.begin (h : Tt w0 tapes gV gT nT cT tab vL li (.slice none 0 0) [] vA bs vN rws W) (hgT : gT < W.heap.size) : Tt w0 tapes gV gT nT cT tab vL li (.slice (some ⟨W.heap.size, 0, none⟩) 0 0) [] vA bs vN rws (W.alloc (.cells #[] 2)) := by
 have h1 := h.step (below_alloc (Below.refl _ _) (.cells #[] 2))
 refine ⟨h1.bV, h1.tab, h1.lst, sr_zero W _ (Below.size h.bel), h1.acc, ?_, h.tl, fun e => ?_, fun k hk e => ?_, h.hV, h1.bel⟩
 ·exact Kd.S_mono (Kd.S_below (Kd.S_bound h.out) (below_alloc (Below.refl _ _) _)) (fun k hk => ⟨hk.1.1, hk.1.2.1, fun e => by have h3 := hk.2.2.1; have h4 : k = W.heap.size := Option.some.inj e; omega⟩)
 ·have h4 : gT = W.heap.size := Option.some.inj e
  omega
 ·have h3 := Kd.R_lt h.lst _ hk
  have h4 : k = W.heap.size := Option.some.inj e
  omega
/-- A mark is put behind the marks. -/
theorem Tt.mark {v1 : Value} {bs' : List Bool} (h : Tt w0 tapes gV gT nT cT tab vL li vr r vA bs vN rws W) (hg : W.grownBy W' vA.ownBlock) (hR : Kd.R Kd.bool 4 W' w0.heap.size (fun _ => True) v1 bs') (hb : Below w0.heap.size w0 W') :
  W'.heap[gV]? = some (.cells #[.int .i64 tapes, .int .i64 0, vA, vN] 27 (0, 0)) ∧ Tt w0 tapes gV gT nT cT tab vL li vr r v1 bs' vN rws (W'.setCell ⟨gV, 2, none⟩ v1) := by
 have hk := Keep.grown hg
 have hy : ∀ E : List Nat, (∀ q ∈ E, q ≠ 4) → Off W vA.ownBlock E := fun E hE => Off.row h.acc hE
 have bV := hk.obj h.bV (off_ne h.bV (hy _ (by decide)))
 refine ⟨bV, ?_⟩
 have hs := Keep.set W' ⟨gV, 2, none⟩ v1
 have p : ∀ E : List Nat, (∀ q ∈ E, q ≠ 27) → Off W' (some gV) E := fun E hE => Off.cells bV hE
 have mv : ∀ {v : Value} {xs : List Int}, SR W w0.heap.size v xs → SR (W'.setCell ⟨gV, 2, none⟩ v1) w0.heap.size v xs := fun h => R_off (R_off h hk (hy _ (by decide))) hs (p _ (by decide))
 exact ⟨blk_put bV 2 v1 rfl, mv h.tab, mv h.lst, mv h.row, R_off hR hs (p _ (by decide)), S_off (S_off h.out hk (hy _ (by decide))) hs (p _ (by decide)), h.tl, h.tr, h.lr, h.hV, hb.setCell h.hV _⟩
/-- The row is put behind the rows. -/
theorem Tt.nxt {v1 : Value} (h : Tt w0 tapes gV gT nT cT tab vL li vr r vA bs vN rws W) (hg : W.grownBy W' vN.ownBlock) (hR : Kd.S (Kd.slice 2 (Kd.int .i64)) 75 W' w0.heap.size (fun k => k ≠ gT ∧ some k ≠ vL.ownBlock) v1 (rws.map ints ++ [ints r])) (hb : Below w0.heap.size w0 W') :
  W'.heap[gV]? = some (.cells #[.int .i64 tapes, .int .i64 0, vA, vN] 27 (0, 0)) ∧ Tt w0 tapes gV gT nT cT tab vL li (.slice none 0 0) [] vA bs v1 (rws ++ [r]) (W'.setCell ⟨gV, 3, none⟩ v1) := by
 have hk := Keep.grown hg
 have hy : ∀ E : List Nat, (∀ q ∈ E, q ≠ 75) → Off W vN.ownBlock E := fun E hE => Off.row (Kd.S_R h.out) hE
 have bV := hk.obj h.bV (off_ne h.bV (hy _ (by decide)))
 refine ⟨bV, ?_⟩
 have hs := Keep.set W' ⟨gV, 3, none⟩ v1
 have p : ∀ E : List Nat, (∀ q ∈ E, q ≠ 27) → Off W' (some gV) E := fun E hE => Off.cells bV hE
 have mv : ∀ {v : Value} {xs : List Int}, SR W w0.heap.size v xs → SR (W'.setCell ⟨gV, 3, none⟩ v1) w0.heap.size v xs := fun h => R_off (R_off h hk (hy _ (by decide))) hs (p _ (by decide))
 exact ⟨blk_put bV 3 v1 rfl, mv h.tab, mv h.lst, Kd.R_nil _ _ _ _ _, R_off (R_off h.acc hk (hy _ (by decide))) hs (p _ (by decide)), Kd.S_mono (ok := fun k => k ≠ gT ∧ some k ≠ vL.ownBlock) (S_off (by simpa using hR) hs (p _ (by decide))) (fun k hk => ⟨hk.1, hk.2, fun e => by cases e⟩), h.tl, (fun e => by cases e), (fun k _ e => by cases e), h.hV, hb.setCell h.hV _⟩
end
end Go.Proofs.YtnjdkhnepmmfgaaDoor.Tw
namespace Go.Proofs.YtnjdkhnepmmfgaaDoor.Fi
set_option linter.unusedVariables false
set_option linter.unusedSimpArgs false
open Go.RowKit Go.Proofs.YtnjdkhnepmmfgaaDoorW.PrintWords Go.Proofs.YtnjdkhnepmmfgaaDoorW.PrintLast Go.Proofs.YtnjdkhnepmmfgaaDoorW.PrintMore Mp Kp Mg Tdy Rg Tw
theorem find_hit {κ : Type} [DecidableEq κ] {k : κ} {l : List κ} {i : Nat} (hi : i < l.length) (he : l[i] = k) (hno : ∀ x, x < i → ∀ h : x < l.length, l[x] ≠ k) : find id k l = some i := by
 induction l generalizing i with
 | nil => simp at hi
 | cons a l ih =>
  unfold find
  cases i with
  | zero =>
   have : id a = k := by simpa using he
   rw [if_pos this]
  | succ i =>
   have hne : ¬ id a = k := hno 0 (by omega) (by simp)
   rw [if_neg hne, ih (by simpa using hi) (by simpa using he) (fun x hx hxl => hno (x + 1) (by omega) (by simpa using hxl))]
   rfl
theorem find_miss {κ : Type} [DecidableEq κ] {k : κ} {l : List κ} (hno : ∀ x, ∀ h : x < l.length, l[x] ≠ k) : find id k l = none := by
 induction l with
 | nil => rfl
 | cons a l ih =>
  unfold find
  have hne : ¬ id a = k := hno 0 (by simp)
  rw [if_neg hne, ih (fun x hxl => hno (x + 1) (by simpa using hxl))]
  rfl
theorem ints_getD (l : List Nat) {i : Nat} (h : i < (ints l).length) : (ints l)[i] = ((l.getD i 0 : Nat) : Int) := by
 have h2 : i < l.length := by rwa [ints_length] at h
 simp [ints, GwI.ints, List.getD_eq_getElem?_getD, h2]
/-- What stands in memory: the classes so far, and the first state of each. -/
structure Fm (w0 : World) (gT nT cT : Nat) (tab : List Int) (vL : Value) (li : List Nat) (W : World) : Prop where
 tab : SR W w0.heap.size (.slice (some ⟨gT, 0, none⟩) nT cT) tab
 lst : SR W w0.heap.size vL (ints li)
 tl : some gT ≠ vL.ownBlock
 bel : Below w0.heap.size w0 W
section
variable {w0 : World} {gT nT cT : Nat} {tab : List Int} {vL : Value} {li : List Nat} {W W' : World}
theorem Fm.step (h : Fm w0 gT nT cT tab vL li W) (hb : Below W.heap.size W W') : Fm w0 gT nT cT tab vL li W' := ⟨Kd.R_below h.tab hb, Kd.R_below h.lst hb, h.tl, below_step h.bel hb⟩
theorem Fm.set (h : Fm w0 gT nT cT tab vL li W) (hg : w0.heap.size ≤ gT) (i : Nat) (x : Int) : Fm w0 gT nT cT (tab.set i x) vL li (W.setCell ⟨gT, i, none⟩ (.int .i64 x)) := by
 have hk := Keep.set W ⟨gT, i, none⟩ (.int .i64 x)
 exact ⟨Kd.R_putn h.tab (i : Int) x, h.lst.move hk (fun k e e2 => by cases e2; exact h.tl e.symm), h.tl, h.bel.setCell hg _⟩
theorem Fm.push (h : Fm w0 gT nT cT tab vL li W) {v1 : Value} {li' : List Nat} (hgT : gT < W.heap.size) (hg : W.grownBy W' vL.ownBlock) (hat : v1.ownBlock = vL.ownBlock ∨ ∃ b, v1.ownBlock = some b ∧ W.heap.size ≤ b) (hR : SR W' w0.heap.size v1 (ints li')) (hb : Below w0.heap.size w0 W') : Fm w0 gT nT cT tab v1 li' W' := by
 have hk := Keep.grown hg
 exact ⟨h.tab.move hk (fun k e e2 => by cases e; exact h.tl e2), hR, ne_after hat hgT h.tl, hb⟩
end
/-- The state's key. -/
abbrev ky (rows : List (List Nat)) (g : List Nat) (q : Nat) : List Nat := Tdy.keyOf rows g q
/-- The classes of the states up to s. -/
def tabS (outs : List Nat) (n : Nat) : List Int := ints outs ++ List.replicate (n - outs.length) 0
theorem tabS_len {outs : List Nat} {n : Nat} (h : outs.length ≤ n) : (tabS outs n).length = n := by unfold tabS; rw [List.length_append, ints_length, List.length_replicate]; omega
theorem tabS_set {outs : List Nat} {n : Nat} (h : outs.length < n) (x : Int) (j : Nat) : ((tabS outs n).set outs.length x).set outs.length (j : Int) = tabS (outs ++ [j]) n := by
 unfold tabS
 have e : n - outs.length = (n - (outs.length + 1)) + 1 := by omega
 have ei : ints (outs ++ [j]) = ints outs ++ [(j : Int)] := by simp [ints, GwI.ints]
 rw [List.set_set, e, List.replicate_succ, List.set_append_right _ _ (by rw [ints_length]; omega), ints_length, Nat.sub_self, List.set_cons_zero, ei, List.append_assoc, List.length_append, List.length_singleton]
 rfl
/-- What is left to number. -/
theorem number_step {rows : List (List Nat)} {g : List Nat} {s : Nat} (hs : s < rows.length) (seen : List (List Nat)) : number ((keys rows g).drop s) seen = match find id (ky rows g s) seen with
  | some j => (j :: (number ((keys rows g).drop (s + 1)) seen).1, (number ((keys rows g).drop (s + 1)) seen).2)
  | none => (seen.length :: (number ((keys rows g).drop (s + 1)) (seen ++ [ky rows g s])).1, (number ((keys rows g).drop (s + 1)) (seen ++ [ky rows g s])).2) := by
 rw [keys_drop rows g hs]
 cases hf : find id (ky rows g s) seen with
 | some j => exact number_hit hf
 | none => exact number_miss hf
/-- The two states' rows lead to the same classes. -/
def alk (rows : List (List Nat)) (g : List Nat) (a b : Nat) : Bool := decide ((rows.getD a []).map (fun p => g.getD p 0) = (rows.getD b []).map (fun p => g.getD p 0))
theorem alk_key {rows : List (List Nat)} {g : List Nat} {a b : Nat} (hc : g.getD a 0 = g.getD b 0) : ky rows g a = ky rows g b ↔ alk rows g a b = true := by
 unfold ky alk Tdy.keyOf
 rw [decide_eq_true_eq, List.cons.injEq]
 exact ⟨fun h => h.2, fun h => ⟨hc, h⟩⟩
set_option maxHeartbeats 8000000 in
set_option maxRecDepth 100000 in
theorem finer (t s0 : Int) (accs : List Bool) (rows : List (List Nat)) (g : List Nat) (hgl : g.length = rows.length) (hpos : 0 < rows.length) (hn : rows.length ≤ 1000000) (w : World) (gp : Nat) (A1 : Option Addr) (c1 : Nat) (hgp : gp < w.heap.size) (h1 : Kd.C (Kd.int .i64) w A1 g.length (ints g))
  (hcall : ∀ W (a b : Nat), Below w.heap.size w W → a < rows.length → b < rows.length → Calls Tryd.prog 105 #[.pointer (some ⟨gp, 0, none⟩), .slice A1 g.length c1, .int .i64 (a : Int), .int .i64 (b : Int)] W fun e W' => e = .returned (.bool (alk rows g a b)) ∧ Drawn0 W W') :
  Calls Tryd.prog 80 #[.pointer (some ⟨gp, 0, none⟩), .slice A1 g.length c1] w fun e w' => ∃ v, e = .returned (.tuple #[v, .int .i64 ((number (keys rows g) []).2.length : Int)]) ∧ Kd.R (Kd.int .i64) 2 w' w.heap.size (fun _ => True) v (ints (number (keys rows g) []).1) ∧ Below w.heap.size w w' := by
 obtain ⟨F1, hF1⟩ : ∃ x, (number (keys rows g) []).1 = x := ⟨_, rfl⟩
 obtain ⟨F2, hF2⟩ : ∃ x, (number (keys rows g) []).2 = x := ⟨_, rfl⟩
 rw [hF1, hF2]
 have hF1' := Aside0.mk hF1
 have hF2' := Aside0.mk hF2
 have hglq := Aside0.mk hgl
 have hnq := Aside0.mk hn
 have hg1 : g.length ≤ 1000000 := by omega
 have hg0 : 0 < g.length := by omega
 have hcl := Aside0.mk hcall
 have h1q := Aside0.mk h1
 clear hF1 hF2 hcall hgl hn h1
 go_enter Tryd.func80, Tryd.ntmps80
 go_wp2_with ((with_reducible refine gate_dst (N := 14) rfl ?_); go_loud (
  refine Kd.R_make (Kd.int .i64) (w0 := w) w.heap.size 2 rfl (N := 14) rfl 75 _ _ rfl (g.length : Int) rfl rfl Tryd.underlying75 (.int .i64 0) 8 info_long rfl (by decide) (by decide) (0 : Int) (ok := fun _ => True) (okp := fun _ => False) rfl (fun _ h => h.elim) trivial (by omega) (by simp; omega) (Below.refl _ _) (Nat.le_refl _) ?_
  intro v2 w2 hR2 hb2 hg2 hn2
  rw [Int.toNat_natCast] at hR2
  obtain ⟨gT, cT, hv2, hgT, hgTl, _⟩ := Kd.R_form hR2 (by rw [List.length_replicate]; exact hg0)
  subst hv2
  rw [List.length_replicate] at hR2))
 have hFm : Fm w gT g.length cT (tabS [] g.length) (.slice (some ⟨w2.heap.size, 0, none⟩) 0 0) [] (w2.alloc (.cells #[] 2)) := by
  refine ⟨?_, sr_zero _ _ (Below.size hb2), fun e => ?_, below_alloc hb2 _⟩
  ·have e : tabS [] g.length = List.replicate g.length 0 := by simp [tabS, ints, GwI.ints]
   rw [e]
   exact Kd.R_below hR2 (below_alloc (Below.refl _ _) _)
  ·have : gT = w2.heap.size := Option.some.inj e
   omega
 have hg1q := Aside0.mk hg1
 have hg0q := Aside0.mk hg0
 have hgTq := Aside0.mk hgT
 clear hR2 hb2 hg2 hn2 hg1 hg0 hgT hgTl hpos hgp
 go_loopg [8, 9] g.length (fun kq v8 v9 W => ∃ (s : Nat) (fs outs : List Nat) (AL : Option Addr) (cL : Nat), v8 = .slice AL fs.length cL ∧ v9 = .int .i64 (s : Int) ∧ Aside0 (kq = g.length - s) ∧ s ≤ g.length ∧ Aside0 (outs.length = s) ∧ Aside0 (∀ q ∈ fs, q < rows.length) ∧ fs.length ≤ s ∧
  Aside0 (F1 = outs ++ (number ((keys rows g).drop s) (fs.map (ky rows g))).1 ∧ F2 = (number ((keys rows g).drop s) (fs.map (ky rows g))).2) ∧ Aside0 (Fm w gT g.length cT (tabS outs g.length) (.slice AL fs.length cL) fs W))
 case atStart => exact ⟨0, [], [], _, _, rfl, rfl, ⟨rfl⟩, Nat.zero_le _, ⟨rfl⟩, ⟨fun q hq => by cases hq⟩, Nat.le_refl _, ⟨by rw [← hF1'.out, ← hF2'.out]; exact ⟨rfl, rfl⟩⟩, ⟨hFm⟩⟩
 case round =>
  clear hFm
  obtain ⟨wo, rfl⟩ : ∃ wo : World, wo = wr := ⟨_, rfl⟩
  obtain ⟨s, fs, outs, AL, cL, rfl, rfl, hk, hsn, hol, hfq, hfl, hN, h⟩ := hrel
  replace h := h.out
  by_cases hs : s < g.length
  ·have hs1 : ((s : Int) < (g.length : Int)) = True := eq_true (by omega)
   have h0s : (0 ≤ (s : Int)) = True := eq_true (by omega)
   have hsrq : Aside0 (s < rows.length) := ⟨by have := hglq.out; omega⟩
   have hsw : wrap64 ((s : Int) + 1) = ((s + 1 : Nat) : Int) := by have := hg1q.out; unfold wrap64; omega
   have htl := tabS_len (outs := outs) (n := g.length) (by have := hol.out; omega)
   have eT := sr_at h.tab (i := s) (by rw [htl]; exact hs)
   obtain ⟨_, cells, hcT⟩ := row_blk h.tab (by rw [htl]; exact hg0q.out)
   have fT : wo.frozen? ⟨gT, s, none⟩ = false := blk_frozen hcT s
   obtain ⟨z, hz⟩ : ∃ z, (tabS outs g.length)[s]'(by rw [htl]; exact hs) = z := ⟨_, rfl⟩
   rw [hz] at eT
   clear hcT cells hz
   go_wp2_with fail
   have hq0 := h.set hgTq.out s (-1)
   clear h eT fT
   generalize wo.setCell ⟨gT, s, none⟩ (.int .i64 (-1)) = wi at *
   have htq := Aside0.mk htl
   clear htl
   obtain ⟨vs, hvs⟩ : ∃ v, g.getD s 0 = v := ⟨_, rfl⟩
   have hvsq := Aside0.mk hvs
   clear hvs
   go_loopg [10] (fs.length + 1) (fun kz v10 W => (∃ k : Nat, v10 = .int .i64 (k : Int) ∧ Aside0 (kz = fs.length - k + 1) ∧ k ≤ fs.length ∧ Aside0 (∀ x, x < k → ∀ hx : x < fs.length, ky rows g fs[x] ≠ ky rows g s) ∧ Aside0 (Fm w gT g.length cT ((tabS outs g.length).set s (-1)) (.slice AL fs.length cL) fs W)) ∨
    (∃ j j1 : Nat, v10 = .int .i64 (j1 : Int) ∧ Aside0 (kz = 0) ∧ Aside0 (j1 = j + 1) ∧ j < fs.length ∧ Aside0 (find id (ky rows g s) (fs.map (ky rows g)) = some j) ∧ Aside0 (Fm w gT g.length cT (((tabS outs g.length).set s (-1)).set s (j : Int)) (.slice AL fs.length cL) fs W)))
   case atStart => exact .inl ⟨0, rfl, ⟨by omega⟩, Nat.zero_le _, ⟨fun x hx => by omega⟩, ⟨hq0⟩⟩
   case round =>
    clear hq0
    obtain ⟨wo2, rfl⟩ : ∃ wo2 : World, wo2 = wr := ⟨_, rfl⟩
    rcases hrel with ⟨k, rfl, hkz, hkl, hno, hF⟩ | ⟨j, j1, rfl, hkz, hj1, hjl, hfj, hF⟩
    ·replace hF := hF.out
     have hTl : s < ((tabS outs g.length).set s (-1)).length := by rw [List.length_set, htq.out]; exact hs
     have eS := sr_at hF.tab (i := s) hTl
     rw [List.getElem_set_self] at eS
     by_cases hk1 : k < fs.length
     ·have hk2 : ((k : Int) < (fs.length : Int)) = True := eq_true (by omega)
      have h0k : (0 ≤ (k : Int)) = True := eq_true (by omega)
      have hkw : wrap64 ((k : Int) + 1) = ((k + 1 : Nat) : Int) := by have := hg1q.out; unfold wrap64; omega
      obtain ⟨p, hp⟩ : ∃ p, fs[k] = p := ⟨_, rfl⟩
      have hpr : p < rows.length := hfq.out p (by rw [← hp]; exact List.getElem_mem hk1)
      have hpg : p < g.length := by have := hglq.out; omega
      have hp1 : ((p : Int) < (g.length : Int)) = True := eq_true (by omega)
      have h0p : (0 ≤ (p : Int)) = True := eq_true (by omega)
      obtain ⟨adL, eL, kL⟩ := sr_at' hF.lst (i := k) (by rw [ints_length]; exact hk1)
      rw [ints_getD] at kL
      have hpp : fs.getD k 0 = p := by rw [List.getD_eq_getElem?_getD, List.getElem?_eq_getElem hk1, hp]; rfl
      rw [hpp] at kL
      obtain ⟨adg, eg, kp⟩ := at_num (Kd.C_below h1q.out hF.bel) p (by rw [ints_length]; exact hpg)
      obtain ⟨adg2, eg2, ks⟩ := at_num (Kd.C_below h1q.out hF.bel) s (by rw [ints_length]; exact hs)
      rw [ints_getD] at kp ks
      rw [hvsq.out] at ks
      obtain ⟨vp, hvp⟩ : ∃ v, g.getD p 0 = v := ⟨_, rfl⟩
      rw [hvp] at kp
      have hvpq := Aside0.mk hvp
      have hpq := Aside0.mk hp
      have hprq := Aside0.mk hpr
      subst eL
      have eg2' := eg.symm.trans eg2
      cases eg2'
      subst eg
      clear eg2 hp hpp hvp hpr hpg
      have key : (ky rows g p = ky rows g s) ↔ (vp = vs ∧ alk rows g p s = true) := by
       constructor
       ·intro h
        have hv : vp = vs := by
         rw [← hvpq.out, ← hvsq.out]
         exact (List.cons.injEq .. ▸ h : _ ∧ _).1
        exact ⟨hv, (alk_key (by rw [hvpq.out, hvsq.out, hv])).1 h⟩
       ·rintro ⟨h1, h2⟩
        exact (alk_key (by rw [hvpq.out, hvsq.out, h1])).2 h2
      have keyq := Aside0.mk key
      clear key
      by_cases hv : vp = vs
      ·have c1 : ((vp : Int) = (vs : Int)) = True := eq_true (by omega)
       have c2 : ((vp : Int) == (vs : Int)) = true := by simp <;> omega
       obtain ⟨ba, hba⟩ : ∃ x, alk rows g p s = x := ⟨_, rfl⟩
       have hcq := Aside0.mk (fun W hb => hba ▸ hcl.out W p s hb hprq.out hsrq.out)
       have hbq := Aside0.mk hba
       clear hba
       go_wp2_with fail
       cases ba with
       | true =>
        go_quiet ((go_at_call 105; (with_reducible refine (hcq.out _ (pw_below_drewN hF.bel _)).mono ?_); rintro e w' ⟨rfl, ⟨nd, rfl⟩⟩; (try first | exact ⟨rfl, _, World.drewN_drewN _ _ _⟩ | exact ⟨rfl, _, Eq.trans (World.drewN_drewN _ _ _) (congrArg (World.drewN _) (Nat.add_assoc _ _ _))⟩)))
        generalize nq = n1
        have hF2 := hF.step (pw_below_drewN (Below.refl _ _) n1)
        clear hF eS kL kp ks
        generalize wo2.drewN n1 = wp at *
        obtain ⟨_, cells, hcT⟩ := row_blk hF2.tab (by rw [List.length_set, htq.out]; exact hg0q.out)
        have fT : wp.frozen? ⟨gT, s, none⟩ = false := blk_frozen hcT s
        have eS := sr_at hF2.tab (i := s) (by rw [List.length_set, htq.out]; exact hs)
        rw [List.getElem_set_self] at eS
        clear hcT cells
        have hF3 := Aside0.mk (hF2.set hgTq.out s (k : Int))
        clear hF2
        go_wp2_with fail
        go_roundg 0
        case measure => have := hkz.out; omega
        case rel => exact .inr ⟨k, k + 1, (by go_num), ⟨rfl⟩, ⟨rfl⟩, hk1, ⟨find_hit (by rw [List.length_map]; exact hk1) (by rw [List.getElem_map, hpq.out]; exact keyq.out.2 ⟨hv, hbq.out⟩) (fun x hx hxl => by rw [List.getElem_map]; exact hno.out x hx (by rwa [List.length_map] at hxl))⟩, hF3⟩
       | false =>
        go_quiet ((go_at_call 105; (with_reducible refine (hcq.out _ (pw_below_drewN hF.bel _)).mono ?_); rintro e w' ⟨rfl, ⟨nd, rfl⟩⟩; (try first | exact ⟨rfl, _, World.drewN_drewN _ _ _⟩ | exact ⟨rfl, _, Eq.trans (World.drewN_drewN _ _ _) (congrArg (World.drewN _) (Nat.add_assoc _ _ _))⟩)))
        generalize nq = n1
        have hF2 := Aside0.mk (hF.step (pw_below_drewN (Below.refl _ _) n1))
        clear hF eS kL kp ks
        generalize wo2.drewN n1 = wp at *
        go_wp2_with fail
        go_roundg (fs.length - (k + 1) + 1)
        case measure => have := hkz.out; omega
        case rel => exact .inl ⟨k + 1, (by go_num), ⟨rfl⟩, by omega, ⟨fun x hx hxl => by
          by_cases hxk : x = k
          ·subst hxk
           rw [hpq.out]
           exact fun e => by have := (keyq.out.1 e).2; rw [hbq.out] at this; cases this
          ·exact hno.out x (by omega) hxl⟩, hF2⟩
      ·have c1 : ((vp : Int) = (vs : Int)) = False := eq_false (by omega)
       have c2 : ((vp : Int) == (vs : Int)) = false := by simp <;> omega
       go_wp2_with fail
       go_quiet (fail)
       generalize nq = n1
       have hF2 := Aside0.mk (hF.step (pw_below_drewN (Below.refl _ _) n1))
       clear hF eS kL kp ks
       generalize wo2.drewN n1 = wp at *
       go_wp2_with fail
       go_roundg (fs.length - (k + 1) + 1)
       case measure => have := hkz.out; omega
       case rel => exact .inl ⟨k + 1, (by go_num), ⟨rfl⟩, by omega, ⟨fun x hx hxl => by
         by_cases hxk : x = k
         ·subst hxk
          rw [hpq.out]
          exact fun e => hv (keyq.out.1 e).1
         ·exact hno.out x (by omega) hxl⟩, hF2⟩
     ·have hk2 : ((k : Int) < (fs.length : Int)) = False := eq_false (by omega)
      have hke : k = fs.length := by omega
      obtain ⟨_, cells, hcT⟩ := row_blk hF.tab (by rw [List.length_set, htq.out]; exact hg0q.out)
      have fT : wo2.frozen? ⟨gT, s, none⟩ = false := blk_frozen hcT s
      have hF3 := hF.set hgTq.out s (fs.length : Int)
      have hgl2 : gT < wo2.heap.size := blk_lt hcT
      have hgl3 : gT < (wo2.setCell ⟨gT, s, none⟩ (.int .i64 (fs.length : Int))).heap.size := by simpa using hgl2
      have hfo := hfq.out
      have hso := hol.out
      have hNo := hN.out
      have hm : find id (ky rows g s) (fs.map (ky rows g)) = none := find_miss (fun x hx => by rw [List.getElem_map]; exact hno.out x (by rw [List.length_map] at hx; omega) (by rwa [List.length_map] at hx))
      have hNx := Aside0.mk hNo
      rw [number_step hsrq.out, hm] at hNo
      have hN3 : Aside0 (F1 = (outs ++ [fs.length]) ++ (number ((keys rows g).drop (s + 1)) ((fs ++ [s]).map (ky rows g))).1 ∧ F2 = (number ((keys rows g).drop (s + 1)) ((fs ++ [s]).map (ky rows g))).2) := ⟨by
       rw [List.map_append, List.map_singleton, List.append_assoc]
       obtain ⟨q1, q2⟩ := hNo
       exact ⟨by rw [q1, List.length_map]; rfl, q2⟩⟩
      have hfq2 : Aside0 (∀ q ∈ fs ++ [s], q < rows.length) := ⟨fun q hq => (List.mem_append.1 hq).elim (hfo q) (fun h => by rw [List.mem_singleton.1 h]; exact hsrq.out)⟩
      have htab : Aside0 ((((tabS outs g.length).set s (-1)).set s (fs.length : Int)) = tabS (outs ++ [fs.length]) g.length) := ⟨by
       have := tabS_set (outs := outs) (n := g.length) (by omega) (-1) fs.length
       rwa [hso] at this⟩
      clear hcT cells hF hgl2 hNo hfo hso hm hN hno hke hNx
      go_wp2_with ((with_reducible refine gate_builtin (b := .append) (xs := #[.tmp 73, .tmp 75]) rfl ?_); go_loud (
       at_builtin
       refine R_append' (Kd.int .i64) (w0 := w) w.heap.size rfl (.tmp 73) (.tmp 75) 75 2 (.int .i64 0) 8 rfl Tryd.underlying75 info_long rfl (by decide) (by decide) (.slice AL fs.length cL) (ints fs) (s : Int) [.int .i64 (s : Int)] (fun _ => True) (fun _ => False) _ (by simp) rfl rfl rfl (fun _ h => h.elim) (fun _ _ => trivial) hF3.lst hF3.bel (Below.size hF3.bel) (by rw [ints_length]; have := hg1q.out; omega) ?_
       intro v6 w6 hR6 hb6 hg6 hat6
       obtain ⟨A6, c6, hv6⟩ := Kd.R_slice hR6
       have ev : (ints fs ++ [(s : Int)]).length = (fs ++ [s]).length := by simp [ints, GwI.ints]
       have ei : ints fs ++ [(s : Int)] = ints (fs ++ [s]) := by simp [ints, GwI.ints]
       rw [ev] at hv6
       rw [ei] at hR6
       subst hv6
       have hF6 := hF3.push hgl3 hg6 hat6 hR6 hb6
       rw [htab.out] at hF6
       have hF7 := Aside0.mk hF6
       clear hF6 hF3 hR6 hb6 hg6 hat6 ev ei hgl3))
      go_roundg (g.length - (s + 1))
      case measure => have := hk.out; omega
      case rel => exact ⟨s + 1, fs ++ [s], outs ++ [fs.length], A6, c6, by rw [List.length_append, List.length_singleton], (by go_num), ⟨rfl⟩, by omega, ⟨by simp [hol.out]⟩, hfq2, by simp; omega, hN3, hF7⟩
    ·replace hF := hF.out
     have eS := sr_at hF.tab (i := s) (by rw [List.length_set, List.length_set, htq.out]; exact hs)
     rw [List.getElem_set_self] at eS
     have hj0 : ((j : Int) < 0) = False := eq_false (by omega)
     have hNo := hN.out
     rw [number_step hsrq.out, hfj.out] at hNo
     have hN3 : Aside0 (F1 = (outs ++ [j]) ++ (number ((keys rows g).drop (s + 1)) (fs.map (ky rows g))).1 ∧ F2 = (number ((keys rows g).drop (s + 1)) (fs.map (ky rows g))).2) := ⟨by
      rw [List.append_assoc]
      exact hNo⟩
     have hF3 := hF
     have htab : (((tabS outs g.length).set s (-1)).set s (j : Int)) = tabS (outs ++ [j]) g.length := by
      have := tabS_set (outs := outs) (n := g.length) (by have := hol.out; omega) (-1) j
      rwa [hol.out] at this
     rw [htab] at hF3
     have hF7 := Aside0.mk hF3
     have hd : ((j1 : Int) < (fs.length : Int)) = True ∨ ((j1 : Int) < (fs.length : Int)) = False := by
      by_cases h : (j1 : Int) < (fs.length : Int)
      ·exact .inl (eq_true h)
      ·exact .inr (eq_false h)
     clear hF hF3 hNo htab hN hfj
     rcases hd with hd | hd <;> (
      go_wp2_with fail
      go_roundg (g.length - (s + 1))
      case measure => have := hk.out; omega
      case rel => exact ⟨s + 1, fs, outs ++ [j], AL, cL, rfl, (by go_num), ⟨rfl⟩, by omega, ⟨by simp [hol.out]⟩, hfq, by omega, hN3, hF7⟩)
  ·have hs1 : ((s : Int) < (g.length : Int)) = False := eq_false (by omega)
   have he : s = g.length := by omega
   have hN2 := hN.out
   rw [List.drop_of_length_le (by rw [keys_length]; have := hglq.out; omega)] at hN2
   obtain ⟨e1, e2⟩ := hN2
   have e3 : outs = F1 := by rw [e1]; simp [number]
   have e4 : F2.length = fs.length := by rw [e2]; simp [number]
   have hT := h.tab
   have e5 : tabS outs g.length = ints F1 := by unfold tabS; rw [hol.out, he, Nat.sub_self, List.replicate_zero, List.append_nil, e3]
   rw [e5] at hT
   go_wp2_with fail
   go_ret2
   exact ⟨_, by rw [e4]; rfl, hT, h.bel⟩
end Go.Proofs.YtnjdkhnepmmfgaaDoor.Fi
namespace Go.Proofs.YtnjdkhnepmmfgaaDoor.Fi
set_option linter.unusedVariables false
set_option linter.unusedSimpArgs false
open Go.RowKit Go.Proofs.YtnjdkhnepmmfgaaDoorW.PrintWords Go.Proofs.YtnjdkhnepmmfgaaDoorW.PrintLast Go.Proofs.YtnjdkhnepmmfgaaDoorW.PrintMore Mp Kp Mg Tdy Rg Tw
theorem maps_eq {f : Nat → Nat} {l m : List Nat} {wd : Nat} (hl : l.length = wd) (hm : m.length = wd) : l.map f = m.map f ↔ ∀ x, x < wd → f (l.getD x 0) = f (m.getD x 0) := by
 constructor
 ·intro h x hx
  have h1 : x < l.length := by omega
  have h2 : x < m.length := by omega
  have h3 := congrArg (fun k => k[x]?) h
  simp only [List.getElem?_map, List.getElem?_eq_getElem h1, List.getElem?_eq_getElem h2, Option.map_some, Option.some.injEq] at h3
  simpa [List.getD_eq_getElem?_getD, h1, h2] using h3
 ·intro h
  refine List.ext_getElem (by rw [List.length_map, List.length_map, hl, hm]) (fun x h1 h2 => ?_)
  have g1 : x < l.length := by rwa [List.length_map] at h1
  have g2 : x < m.length := by rwa [List.length_map] at h2
  have := h x (by omega)
  rw [List.getElem_map, List.getElem_map]
  simpa [List.getD_eq_getElem?_getD, g1, g2] using this
theorem alk_of {rows : List (List Nat)} {g : List Nat} {a b wd : Nat} (ha : (rows.getD a []).length = wd) (hb : (rows.getD b []).length = wd) : alk rows g a b = true ↔ ∀ x, x < wd → g.getD ((rows.getD a []).getD x 0) 0 = g.getD ((rows.getD b []).getD x 0) 0 := by
 unfold alk
 rw [decide_eq_true_eq]
 exact maps_eq (f := fun p => g.getD p 0) ha hb
theorem row_at {w : World} {A : Option Addr} {rows : List (List Nat)} {a wd : Nat} (h : Kd.C (Kd.slice 2 (Kd.int .i64)) w A rows.length (rows.map ints)) (ha : a < rows.length) (hw : (rows.getD a []).length = wd) :
  ∃ ad Aa ca, A = some ad ∧ w.cell? (ad.add a) = some (.slice Aa wd ca) ∧ Kd.C (Kd.int .i64) w Aa wd (ints (rows.getD a [])) := by
 obtain ⟨ad, e, Aa, ca, h1, h2, h3⟩ := at_row h a (by rw [List.length_map]; exact ha)
 have e2 : (rows.map ints)[a]'(by rw [List.length_map]; exact ha) = ints (rows.getD a []) := by simp [List.getD_eq_getElem?_getD, ha]
 rw [e2] at h1 h3
 rw [ints_length, hw] at h1 h3
 exact ⟨ad, Aa, ca, e, h1, h3⟩
set_option maxHeartbeats 4000000 in
theorem alike (a0 a1 : Int) (rows : List (List Nat)) (g : List Nat) (wd : Nat) (hwide : ∀ r ∈ rows, r.length = wd) (hlt : ∀ r ∈ rows, ∀ q ∈ r, q < rows.length) (hgl : g.length = rows.length) (hwd : wd ≤ 1000) (gp : Nat) (A2 : Option Addr) (n2 c2 : Nat) (A3 : Option Addr) (c3 : Nat) (A1 : Option Addr) (c1 : Nat) (w : World)
  (hP : w.heap[gp]? = some (.cells #[.int .i64 a0, .int .i64 a1, .slice A2 n2 c2, .slice A3 rows.length c3] 27 (0, 0))) (h3 : Kd.C (Kd.slice 2 (Kd.int .i64)) w A3 rows.length (rows.map ints)) (h1 : Kd.C (Kd.int .i64) w A1 g.length (ints g)) (a b : Nat) (ha : a < rows.length) (hb : b < rows.length) :
  Calls Tryd.prog 105 #[.pointer (some ⟨gp, 0, none⟩), .slice A1 g.length c1, .int .i64 (a : Int), .int .i64 (b : Int)] w fun e W' => e = .returned (.bool (alk rows g a b)) ∧ Drawn0 w W' := by
 have ga : rows.getD a [] ∈ rows := by rw [List.getD_eq_getElem?_getD, List.getElem?_eq_getElem ha]; exact List.getElem_mem ha
 have gb : rows.getD b [] ∈ rows := by rw [List.getD_eq_getElem?_getD, List.getElem?_eq_getElem hb]; exact List.getElem_mem hb
 have la := hwide _ ga
 have lb := hwide _ gb
 have qa := hlt _ ga
 have qb := hlt _ gb
 have hak := Aside0.mk (alk_of (g := g) la lb)
 obtain ⟨R, hR⟩ : ∃ r, alk rows g a b = r := ⟨_, rfl⟩
 obtain ⟨ra, hra⟩ : ∃ r, rows.getD a [] = r := ⟨_, rfl⟩
 obtain ⟨rb, hrb⟩ : ∃ r, rows.getD b [] = r := ⟨_, rfl⟩
 have hraq := Aside0.mk (And.intro hra (hra ▸ la))
 have hrbq := Aside0.mk (And.intro hrb (hrb ▸ lb))
 have hakq : Aside0 (R = true ↔ ∀ x, x < wd → g.getD (ra.getD x 0) 0 = g.getD (rb.getD x 0) 0) := ⟨by rw [← hR, ← hra, ← hrb]; exact hak.out⟩
 have qaq : Aside0 (∀ q ∈ ra, q < rows.length) := ⟨by rw [← hra]; exact qa⟩
 have qbq : Aside0 (∀ q ∈ rb, q < rows.length) := ⟨by rw [← hrb]; exact qb⟩
 have a1q : ((a : Int) < (rows.length : Int)) = True := eq_true (by omega)
 have b1q : ((b : Int) < (rows.length : Int)) = True := eq_true (by omega)
 have a0q : (0 ≤ (a : Int)) = True := eq_true (by omega)
 have b0q : (0 ≤ (b : Int)) = True := eq_true (by omega)
 have hglq := Aside0.mk hgl
 have hwdq := Aside0.mk hwd
 have haq := Aside0.mk ha
 have hbq := Aside0.mk hb
 have hPq := Aside0.mk hP
 have h3q := Aside0.mk h3
 have h1q := Aside0.mk h1
 rw [hR]
 clear hwide hlt ga gb la lb qa qb hak hra hrb hgl hwd ha hb hP h3 h1 hR
 go_enter Tryd.func105, Tryd.ntmps105
 go_wp2_with fail
 go_loopg [9] wd (fun kq v9 W => ∃ c : Nat, v9 = .int .i64 (c : Int) ∧ Aside0 (kq = wd - c) ∧ c ≤ wd ∧ Aside0 (∀ x, x < c → g.getD (ra.getD x 0) 0 = g.getD (rb.getD x 0) 0) ∧ Aside0 (∃ n, W = w.drewN n))
 case atStart => exact ⟨0, rfl, ⟨rfl⟩, Nat.zero_le _, ⟨fun x hx => by omega⟩, ⟨0, rfl⟩⟩
 case round =>
  obtain ⟨c, rfl, hkq, hcl, heq, hW⟩ := hrel
  obtain ⟨n, hn⟩ := hW.out
  have hB : Below w.heap.size w wr := by rw [hn]; exact pw_below_drewN (Below.refl _ _) n
  have hnq := Aside0.mk hn
  have mX : wr.cell? ⟨gp, 3, none⟩ = some (.slice A3 rows.length c3) := (blk_cell (blk_below hPq.out hB) 3).trans rfl
  obtain ⟨ad, Aa, ca, eA, ka, hCa⟩ := row_at (wd := wd) (Kd.C_below h3q.out hB) haq.out (by rw [hraq.out.1]; exact hraq.out.2)
  obtain ⟨ad2, Ab, cb, eA2, kb, hCb⟩ := row_at (wd := wd) (Kd.C_below h3q.out hB) hbq.out (by rw [hrbq.out.1]; exact hrbq.out.2)
  cases eA.symm.trans eA2
  rw [hraq.out.1] at hCa
  rw [hrbq.out.1] at hCb
  have hBq := Aside0.mk hB
  clear hn hW eA2 hB
  by_cases hc : c < wd
  ·have hc1 : ((c : Int) < (wd : Int)) = True := eq_true (by omega)
   have h0c : (0 ≤ (c : Int)) = True := eq_true (by omega)
   have hcw : wrap64 ((c : Int) + 1) = ((c + 1 : Nat) : Int) := by have := hwdq.out; unfold wrap64; omega
   obtain ⟨ada, eAa, xa⟩ := at_num hCa c (by rw [ints_length, hraq.out.2]; exact hc)
   obtain ⟨adb, eAb, xb⟩ := at_num hCb c (by rw [ints_length, hrbq.out.2]; exact hc)
   rw [ints_getD] at xa xb
   obtain ⟨p, hp⟩ : ∃ p, ra.getD c 0 = p := ⟨_, rfl⟩
   obtain ⟨q, hq⟩ : ∃ q, rb.getD c 0 = q := ⟨_, rfl⟩
   have hpl : p < g.length := by
    rw [hglq.out, ← hp]
    refine qaq.out _ ?_
    rw [List.getD_eq_getElem?_getD, List.getElem?_eq_getElem (by rw [hraq.out.2]; exact hc)]
    exact List.getElem_mem _
   have hql : q < g.length := by
    rw [hglq.out, ← hq]
    refine qbq.out _ ?_
    rw [List.getD_eq_getElem?_getD, List.getElem?_eq_getElem (by rw [hrbq.out.2]; exact hc)]
    exact List.getElem_mem _
   rw [hp] at xa
   rw [hq] at xb
   obtain ⟨adg, eg, yp⟩ := at_num (Kd.C_below h1q.out hBq.out) p (by rw [ints_length]; exact hpl)
   obtain ⟨adg2, eg2, yq⟩ := at_num (Kd.C_below h1q.out hBq.out) q (by rw [ints_length]; exact hql)
   cases eg.symm.trans eg2
   rw [ints_getD] at yp yq
   have hp1 : ((p : Int) < (g.length : Int)) = True := eq_true (by omega)
   have hq1 : ((q : Int) < (g.length : Int)) = True := eq_true (by omega)
   have h0p : (0 ≤ (p : Int)) = True := eq_true (by omega)
   have h0q : (0 ≤ (q : Int)) = True := eq_true (by omega)
   obtain ⟨vp, hvp⟩ : ∃ v, g.getD p 0 = v := ⟨_, rfl⟩
   obtain ⟨vq, hvq⟩ : ∃ v, g.getD q 0 = v := ⟨_, rfl⟩
   rw [hvp] at yp
   rw [hvq] at yq
   have hpq := Aside0.mk hp
   have hqq := Aside0.mk hq
   have hvpq := Aside0.mk hvp
   have hvqq := Aside0.mk hvq
   subst eA
   subst eAa
   subst eAb
   subst eg
   clear eg2 hp hq hvp hvq hpl hql hCa hCb
   by_cases hv : vp = vq
   ·have z1 : ((vp : Int) = (vq : Int)) = True := eq_true (by omega)
    have z2 : ((vp : Int) == (vq : Int)) = true := by simp <;> omega
    have z3 : ((vp : Int) != (vq : Int)) = false := by simp <;> omega
    go_wp2_with fail
    go_quiet (fail)
    generalize nq = n1
    go_wp2_with fail
    go_roundg (wd - (c + 1))
    case measure => have := hkq.out; omega
    case rel => exact ⟨c + 1, (by go_num), ⟨rfl⟩, by omega, ⟨fun x hx => by
      by_cases hxc : x = c
      ·rw [hxc, hpq.out, hqq.out, hvpq.out, hvqq.out, hv]
      ·exact heq.out x (by omega)⟩, ⟨n + n1, by rw [hnq.out]; exact World.drewN_drewN _ _ _⟩⟩
   ·have z1 : ((vp : Int) = (vq : Int)) = False := eq_false (by omega)
    have z2 : ((vp : Int) == (vq : Int)) = false := by simp <;> omega
    have z3 : ((vp : Int) != (vq : Int)) = true := by simp <;> omega
    go_wp2_with fail
    go_quiet (fail)
    generalize nq = n1
    go_wp2_with fail
    go_ret
    have hRf : R = false := by
     cases hRR : R with
     | false => rfl
     | true =>
      have := (hakq.out.1 hRR) c hc
      rw [hpq.out, hqq.out, hvpq.out, hvqq.out] at this
      exact absurd this hv
    exact ⟨by rw [hRf]; rfl, n + n1, by rw [hnq.out]; exact World.drewN_drewN _ _ _⟩
  ·have hc1 : ((c : Int) < (wd : Int)) = False := eq_false (by omega)
   have hcw : c = wd := by omega
   subst eA
   have hRt : R = true := hakq.out.2 (fun x hx => heq.out x (by omega))
   clear hCa hCb
   go_wp2_with fail
   go_ret
   exact ⟨by rw [hRt]; rfl, n, hnq.out⟩
end Go.Proofs.YtnjdkhnepmmfgaaDoor.Fi
namespace Go.Proofs.YtnjdkhnepmmfgaaDoor.Ti
set_option linter.unusedVariables false
set_option linter.unusedSimpArgs false
open Go.RowKit Tdy Td Mg Rg
abbrev Pl := GwP.Pl
theorem classes_onto {rows : List (List Nat)} : ∀ (f : Nat) (g : List Nat) (m : Nat) (g' : List Nat), classes rows f g m = some g' → g'.length = rows.length ∧ ∃ L, Onto rows.length (fun x => g'.getD x 0) L
 | 0, _, _, _, he => by simp [classes] at he
 | f + 1, g, m, g', he => by
  have hn := number_spec (keys rows g) [] List.Pairwise.nil
  have hl : (keys rows g).length = rows.length := by simp [keys]
  have ho' := hn.onto
  rw [hl] at ho'
  unfold classes at he
  split at he
  ·obtain rfl := Option.some.inj he
   exact ⟨by rw [hn.len, hl], _, ho'⟩
  ·exact classes_onto f _ _ g' he
theorem ones_len (g : List Nat) : ∀ n, (ones g n).length = g.length
 | 0 => by simp [ones]
 | n + 1 => by
  have e : ones g (n + 1) = (ones g n).set (g.getD n 0) n := by simp [ones, List.range_succ]
  rw [e, List.length_set, ones_len g n]
theorem ones_at (g : List Nat) (hlt : ∀ x, x < g.length → g.getD x 0 < g.length) : ∀ n, n ≤ g.length → ∀ x, x < n → (ones g n).getD (g.getD x 0) 0 < n ∧ g.getD ((ones g n).getD (g.getD x 0) 0) 0 = g.getD x 0
 | 0, _, x, hx => by omega
 | n + 1, hn, x, hx => by
  have e : ones g (n + 1) = (ones g n).set (g.getD n 0) n := by simp [ones, List.range_succ]
  have hgn := hlt n (by omega)
  rw [e]
  by_cases h : g.getD n 0 = g.getD x 0
  ·have e2 : ((ones g n).set (g.getD n 0) n).getD (g.getD x 0) 0 = n := by
    rw [← h, List.getD_eq_getElem?_getD, List.getElem?_set_self (by rw [ones_len]; exact hgn)]
    rfl
   rw [e2]
   exact ⟨by omega, h⟩
  ·have hx' : x < n := by
    rcases Nat.lt_or_ge x n with h1 | h1
    ·exact h1
    ·have : x = n := by omega
     exact absurd (by rw [this]) h
   have e2 : ((ones g n).set (g.getD n 0) n).getD (g.getD x 0) 0 = (ones g n).getD (g.getD x 0) 0 := by
    rw [List.getD_eq_getElem?_getD, List.getElem?_set_ne h, ← List.getD_eq_getElem?_getD]
   rw [e2]
   have := ones_at g hlt n (by omega) x hx'
   exact ⟨by omega, this.2⟩
theorem isOne {rows : List (List Nat)} {g : List Nat} (hl : g.length = rows.length) {L : Nat} (ho : Onto rows.length (fun x => g.getD x 0) L) : IsOne rows g (oneOf g) := by
 have hlt : ∀ x, x < g.length → g.getD x 0 < g.length := fun x hx => by
  have h1 := ho.lt x (by omega)
  have h2 := ho.le_n
  have h3 : g.getD x 0 < L := h1
  omega
 unfold oneOf
 exact ⟨fun x hx => by rw [← hl] at hx ⊢; exact (ones_at g hlt g.length (Nat.le_refl _) x hx).1, fun x hx => by rw [← hl] at hx; exact (ones_at g hlt g.length (Nat.le_refl _) x hx).2⟩
/-- No tape that has ended goes on. -/
def okC (pad : Nat → Nat) (e c : Nat) : Bool := decide (bits .andNot .i64 (e : Int) (pad c : Int) = 0)
def enC (pad : Nat → Nat) (e c : Nat) : Option Nat := if okC pad e c then some (pad c) else none
def plA (rows : List (List Nat)) (accs : List Bool) (pad : Nat → Nat) : Aut Pl := ⟨nxtP rows pad, accP accs⟩
theorem pl_same (wd : Nat) (rows : List (List Nat)) (accs : List Bool) (pad : Nat → Nat) (start : Nat) : Same wd (plA rows accs pad) (right (mach rows accs) (okC pad) pad) ((start : Int), (0 : Int)) (some (start, 0)) := by
 refine Same.of (R := fun (p : Pl) (q : Option (Nat × Nat)) => (p = (0, -1) ∧ q = none) ∨ ∃ s e : Nat, p = ((s : Int), (e : Int)) ∧ q = some (s, e)) ?_ ?_ (.inr ⟨start, 0, rfl, rfl⟩)
 ·rintro p q (⟨rfl, rfl⟩ | ⟨s, e, rfl, rfl⟩)
  ·simp [plA, accP, Tdy.right]
  ·have e0 : ¬ ((e : Int) < 0) := by omega
   simp only [plA, accP, Tdy.right, mach, e0, if_false, Int.toNat_natCast]
 ·rintro p q (⟨rfl, rfl⟩ | ⟨s, e, rfl, rfl⟩) c hc
  ·refine .inl ⟨?_, rfl⟩
   simp [plA, nxtP]
  ·by_cases hz : bits .andNot .i64 (e : Int) (pad c : Int) = 0
   ·have e0 : ¬ ((e : Int) < 0 ∨ bits .andNot .i64 (e : Int) (pad c : Int) ≠ 0) := by
     rintro (h | h)
     ·omega
     ·exact h hz
    refine .inr ⟨(rows.getD s []).getD c 0, pad c, ?_, ?_⟩
    ·show nxtP rows pad _ c = _
     unfold nxtP
     rw [if_neg e0]
     simp
    ·show (if okC pad e c then some ((mach rows accs).step s c, pad c) else none) = _
     unfold okC
     rw [if_pos (decide_eq_true hz)]
     rfl
   ·refine .inl ⟨?_, ?_⟩
    ·show nxtP rows pad _ c = _
     unfold nxtP
     rw [if_pos (.inr hz)]
    ·show (if okC pad e c then some ((mach rows accs).step s c, pad c) else none) = _
     unfold okC
     rw [if_neg (by simpa using hz)]
/-! ### the reference's machine -/
def rowsX (wd L : Nat) (rws : List (List Int)) : List (List Nat) := rws.map (fun r => r.map (fun e => (fixE L e).toNat)) ++ [List.replicate wd L]
def accsX (accs : List Bool) (size : Nat) (li : List Nat) : List Bool := li.map (fun x => accs.getD (x / size) false) ++ [false]
theorem fixE_nat (L : Nat) (e : Int) : (((fixE L e).toNat : Nat) : Int) = fixE L e := by
 unfold fixE
 split <;> omega
theorem rowsX_ints {wd L : Nat} {rws : List (List Int)} (hl : rws.length = L) : (rowsX wd L rws).map ints = fixTo L L rws ++ [List.replicate wd (L : Int)] := by
 unfold rowsX fixTo
 rw [List.take_of_length_le (by omega), List.drop_of_length_le (by omega), List.append_nil, List.map_append, List.map_map]
 congr 1
 ·apply List.map_congr_left
  intro r _
  simp only [Function.comp_def, ints, GwI.ints, List.map_map]
  apply List.map_congr_left
  intro e _
  exact fixE_nat L e
 ·simp [ints, GwI.ints]
structure Rgt (wd n size : Nat) (rows : List (List Nat)) (pad : Nat → Nat) (start : Nat) (li : List Nat) (rws : List (List Int)) : Prop where
 li0 : li[0]? = some (start * size)
 len : rws.length = li.length
 wide : ∀ r ∈ rws, r.length = wd
 ok : ∀ (k x : Nat) (r : List Int), li[k]? = some x → rws[k]? = some r → RowOk (fun x c => (enC pad (x % size) c).map (fun e => ((rows.getD (x / size) []).getD c 0) * size + e)) li x r
section
variable {wd n size start : Nat} {rows : List (List Nat)} {accs : List Bool} {pad : Nat → Nat} {li : List Nat} {rws : List (List Int)}
theorem rowX_at (h : Rgt wd n size rows pad start li rws) {i x : Nat} (hi : li[i]? = some x) {c : Nat} (hc : c < wd) :
  (enC pad (x % size) c = none ∧ ((rowsX wd li.length rws).getD i []).getD c 0 = li.length) ∨ ∃ e j, enC pad (x % size) c = some e ∧ ((rowsX wd li.length rws).getD i []).getD c 0 = j ∧ li[j]? = some (((rows.getD (x / size) []).getD c 0) * size + e) := by
 obtain ⟨hil, _⟩ := List.getElem?_eq_some_iff.1 hi
 have hir : i < rws.length := by rw [h.len]; exact hil
 have hr : rws[i]? = some rws[i] := List.getElem?_eq_getElem hir
 have hw := h.wide _ (List.getElem_mem hir)
 have e1 : (rowsX wd li.length rws).getD i [] = rws[i].map (fun e => (fixE li.length e).toNat) := by
  unfold rowsX
  rw [List.getD_eq_getElem?_getD, List.getElem?_append_left (by rw [List.length_map]; exact hir), List.getElem?_map, hr]
  rfl
 have e2 : ∀ v, rws[i][c]? = some v → ((rowsX wd li.length rws).getD i []).getD c 0 = (fixE li.length v).toNat := fun v hv => by
  rw [e1, List.getD_eq_getElem?_getD, List.getElem?_map, hv]
  rfl
 rcases h.ok i x _ hi hr c (by rw [hw]; exact hc) with ⟨h1, h2⟩ | ⟨t, j, h1, h2, h3⟩ <;> simp only at h1
 ·refine .inl ⟨?_, ?_⟩
  ·cases he : enC pad (x % size) c with
   | none => rfl
   | some e => rw [he] at h1; cases h1
  ·rw [e2 _ h2]
   simp [fixE]
 ·cases he : enC pad (x % size) c with
  | none => rw [he] at h1; cases h1
  | some e =>
   rw [he] at h1
   simp only [Option.map_some, Option.some.injEq] at h1
   refine .inr ⟨e, j, rfl, ?_, by rw [h1]; exact h3⟩
   rw [e2 _ h2]
   have : ¬ ((j : Int) < 0) := by omega
   simp [fixE, this]
theorem dead_at (h : Rgt wd n size rows pad start li rws) {c : Nat} (hc : c < wd) : ((rowsX wd li.length rws).getD li.length []).getD c 0 = li.length := by
 have e : (rowsX wd li.length rws).getD li.length [] = List.replicate wd li.length := by
  unfold rowsX
  rw [List.getD_eq_getElem?_getD, List.getElem?_append_right (by rw [List.length_map, h.len]; exact Nat.le_refl _), List.length_map, h.len, Nat.sub_self]
  rfl
 rw [e]
 simp [List.getD_eq_getElem?_getD, hc]
theorem rowsX_len (h : Rgt wd n size rows pad start li rws) : (rowsX wd li.length rws).length = li.length + 1 := by simp [rowsX, h.len]
theorem rgt_closed (h : Rgt wd n size rows pad start li rws) : Closed wd (rowsX wd li.length rws) (accsX accs size li) := by
 have hw : ∀ r ∈ rowsX wd li.length rws, r.length = wd := by
  intro r hr
  rcases List.mem_append.1 hr with hr | hr
  ·obtain ⟨r', hr', rfl⟩ := List.mem_map.1 hr
   rw [List.length_map, h.wide r' hr']
  ·rw [List.mem_singleton.1 hr]; simp
 refine ⟨by rw [rowsX_len h]; simp [accsX], hw, fun r hr q hq => ?_⟩
 rw [rowsX_len h]
 obtain ⟨i, hi, rfl⟩ := List.getElem_of_mem hr
 obtain ⟨c, hc, rfl⟩ := List.getElem_of_mem hq
 have hcw : c < wd := by rw [← hw _ (List.getElem_mem hi)]; exact hc
 have e : ((rowsX wd li.length rws).getD i []).getD c 0 = (rowsX wd li.length rws)[i][c] := by simp [List.getD_eq_getElem?_getD, hi, hc]
 rw [← e]
 rw [rowsX_len h] at hi
 rcases Nat.lt_or_ge i li.length with hil | hil
 ·rcases rowX_at h (List.getElem?_eq_getElem hil) hcw with ⟨_, h2⟩ | ⟨e, j, _, h2, h3⟩
  ·rw [h2]; omega
  ·rw [h2]
   have := (List.getElem?_eq_some_iff.1 h3).1
   omega
 ·have : i = li.length := by omega
  rw [this, dead_at h hcw]
  omega
theorem div_mod {a e size : Nat} (h : e < size) : (a * size + e) / size = a ∧ (a * size + e) % size = e := by
 refine ⟨?_, ?_⟩
 ·rw [Nat.mul_comm, Nat.mul_add_div (by omega), Nat.div_eq_of_lt h, Nat.add_zero]
 ·rw [Nat.mul_comm, Nat.mul_add_mod, Nat.mod_eq_of_lt h]
theorem rgt_same (h : Rgt wd n size rows pad start li rws) (hp : ∀ c, c < wd → pad c < size) (hs0 : 0 < size) : Same wd (mach (rowsX wd li.length rws) (accsX accs size li)) (right (mach rows accs) (okC pad) pad) 0 (some (start, 0)) := by
 have hd0 := div_mod (a := start) hs0
 rw [Nat.add_zero] at hd0
 refine Same.of (R := fun (i : Nat) (q : Option (Nat × Nat)) => (i = li.length ∧ q = none) ∨ ∃ x, li[i]? = some x ∧ q = some (x / size, x % size)) ?_ ?_ (.inr ⟨_, h.li0, by rw [hd0.1, hd0.2]⟩)
 ·rintro i q (⟨rfl, rfl⟩ | ⟨x, hx, rfl⟩)
  ·simp [mach, accsX, Tdy.right]
  ·obtain ⟨hil, e⟩ := List.getElem?_eq_some_iff.1 hx
   show (accsX accs size li).getD i false = accs.getD (x / size) false
   unfold accsX
   rw [List.getD_eq_getElem?_getD, List.getElem?_append_left (by rw [List.length_map]; exact hil), List.getElem?_map, hx]
   rfl
 ·rintro i q (⟨rfl, rfl⟩ | ⟨x, hx, rfl⟩) c hc
  ·exact .inl ⟨dead_at h hc, rfl⟩
  ·rcases rowX_at h hx hc with ⟨h1, h2⟩ | ⟨e, j, h1, h2, h3⟩
   ·refine .inl ⟨h2, ?_⟩
    show (if okC pad (x % size) c then some ((mach rows accs).step (x / size) c, pad c) else none) = none
    unfold enC at h1
    split at h1
    ·cases h1
    ·rename_i h4
     rw [if_neg h4]
   ·refine .inr ⟨_, by show li[((rowsX wd li.length rws).getD i []).getD c 0]? = _; rw [h2]; exact h3, ?_⟩
    show (if okC pad (x % size) c then some ((mach rows accs).step (x / size) c, pad c) else none) = _
    unfold enC at h1
    split at h1
    ·rename_i h4
     obtain rfl := Option.some.inj h1
     have hdm := div_mod (a := (rows.getD (x / size) []).getD c 0) (hp c hc)
     rw [if_pos h4, hdm.1, hdm.2]
     rfl
    ·cases h1
end
/-! ### the tidy machine -/
def tidL (wd : Nat) (rows : List (List Nat)) (accs : List Bool) (start : Nat) (pad : Nat → Nat) : List Bool × List (List Nat) :=
 match bfs id (nxtP rows pad) (List.range wd) 0 (8 * rows.length + 2) 0 [((start : Int), (0 : Int))] [] with
 | some (some (lp, rp)) =>
  match classes rp (rp.length + 1) (first (lp.map (accP accs))) 0 with
  | some g =>
   match byClass wd rp g (oneOf g) 0 (rp.length + 2) with
   | some (some (l, rws)) => (l.map (fun a => (lp.map (accP accs)).getD (oneOf g a) false), rws)
   | _ => ([], [])
  | none => ([], [])
 | _ => ([], [])
structure Made (wd : Nat) (rows : List (List Nat)) (accs : List Bool) (start : Nat) (pad : Nat → Nat) (bs : List Bool) (rws : List (List Nat)) : Prop where
 is : ∃ lp rp g l, bfs id (nxtP rows pad) (List.range wd) 0 (8 * rows.length + 2) 0 [((start : Int), (0 : Int))] [] = some (some (lp, rp)) ∧ classes rp (rp.length + 1) (first (lp.map (accP accs))) 0 = some g ∧ byClass wd rp g (oneOf g) 0 (rp.length + 2) = some (some (l, rws)) ∧
  bs = l.map (fun a => (lp.map (accP accs)).getD (oneOf g a) false) ∧ Closed wd rp (lp.map (accP accs)) ∧ 0 < rp.length ∧ Same wd (mach rp (lp.map (accP accs))) (right (mach rows accs) (okC pad) pad) 0 (some (start, 0)) ∧ IsClasses wd rp (lp.map (accP accs)) g ∧ IsOne rp g (oneOf g) ∧ lp.length ≤ 8 * rows.length + 1
theorem made {wd : Nat} {rows : List (List Nat)} {accs : List Bool} {start : Nat} {pad : Nat → Nat} (hcl : Closed wd rows accs) (hst : start < rows.length) (hp : ∀ c, c < wd → pad c < 8) : Made wd rows accs start pad (tidL wd rows accs start pad).1 (tidL wd rows accs start pad).2 := by
 have hs0 : Met8 rows.length ((start : Int), (0 : Int)) := .inr ⟨start, 0, hst, by omega, rfl⟩
 have hnx : ∀ p c, Met8 rows.length p → c < wd → Met8 rows.length (nxtP rows pad p c) := fun p c h1 h2 => met8_next hcl hp h1 h2
 obtain ⟨r1, hr1⟩ := bfs_end (key := (id : Pl → Pl)) (nxt := nxtP rows pad) (cols := List.range wd) (limit := 0) (Q := Met8 rows.length) (U := ((0, -1) : Pl) :: (List.range (8 * rows.length)).map (fun x => (((x / 8 : Nat) : Int), ((x % 8 : Nat) : Int)))) (by
   rintro p (rfl | ⟨s, e, h1, h2, rfl⟩)
   ·exact List.mem_cons_self ..
   ·refine List.mem_cons_of_mem _ (List.mem_map.2 ⟨8 * s + e, List.mem_range.2 (by omega), ?_⟩)
    have h3 : (8 * s + e) / 8 = s := by omega
    have h4 : (8 * s + e) % 8 = e := by omega
    simp only [h3, h4, id])
  (fun p hq c hc => hnx p c hq (List.mem_range.1 hc)) (8 * rows.length + 2) 0 [((start : Int), (0 : Int))] [] (by simp) (Nat.zero_le _) (List.pairwise_singleton _ _) (fun x hx => by rw [List.mem_singleton.1 hx]; exact hs0)
 cases r1 with
 | none => exact absurd hr1 (bfs_zero _ _ _ _)
 | some q =>
 obtain ⟨lp, rp⟩ := q
 obtain ⟨hd, m, hm⟩ := bfs_done _ 0 [((start : Int), (0 : Int))] [] lp rp hr1 (Nat.zero_le _) rfl (List.pairwise_singleton _ _) (fun r hr => by cases hr) (fun i hi => by cases hi)
 have hcl2 : Closed wd rp (lp.map (accP accs)) := done_closed _ hd
 have hlp : 0 < lp.length := by rw [hm]; simp
 have hrp : 0 < rp.length := by rw [hd.len]; exact hlp
 have hlp0 : lp[0] = ((start : Int), (0 : Int)) := by
  have h : lp[0]? = some ((start : Int), (0 : Int)) := by rw [hm]; rfl
  rw [List.getElem?_eq_getElem hlp] at h
  exact Option.some.inj h
 have hsame : Same wd (mach rp (lp.map (accP accs))) (right (mach rows accs) (okC pad) pad) 0 (some (start, 0)) := by
  have h := done_same (A := plA rows accs pad) hd hlp
  rw [hlp0] at h
  exact h.trans (pl_same wd rows accs pad start)
 obtain ⟨g, hg⟩ := classes_end (rows := rp) (rp.length + 1) (first (lp.map (accP accs))) 0 (by omega) (.inl rfl)
 obtain ⟨hgl, L, hon⟩ := classes_onto _ _ _ _ hg
 have hic := classes_is hcl2 hrp hg
 have hone := isOne hgl hon
 obtain ⟨r3, hr3⟩ := bfs_end (key := (id : Nat → Nat)) (nxt := fun a c => g.getD ((rp.getD (oneOf g a) []).getD c 0) 0) (cols := List.range wd) (limit := 0) (Q := fun a => ∃ x, x < rp.length ∧ a = g.getD x 0) (U := List.range L) (by
   rintro a ⟨x, hx, rfl⟩
   exact List.mem_range.2 (hon.lt x hx))
  (by
   rintro a ⟨x, hx, rfl⟩ c hc
   exact ⟨_, hcl2.step (hone.lt x hx) (List.mem_range.1 hc), rfl⟩) (rp.length + 2) 0 [g.getD 0 0] [] (by have := hon.le_n; simp; omega) (Nat.zero_le _) (List.pairwise_singleton _ _) (fun x hx => by rw [List.mem_singleton.1 hx]; exact ⟨0, hrp, rfl⟩)
 cases r3 with
 | none => exact absurd hr3 (bfs_zero _ _ _ _)
 | some q =>
 obtain ⟨l, rws⟩ := q
 have hby : byClass wd rp g (oneOf g) 0 (rp.length + 2) = some (some (l, rws)) := hr3
 have he : tidL wd rows accs start pad = (l.map (fun a => (lp.map (accP accs)).getD (oneOf g a) false), rws) := by
  unfold tidL
  rw [hr1]
  simp only [hg, hby]
 rw [he]
 exact ⟨lp, rp, g, l, hr1, hg, hby, rfl, hcl2, hrp, hsame, hic, hone, places_len hr1 hs0 hnx⟩
theorem made_tidied {wd : Nat} {rows : List (List Nat)} {accs : List Bool} {start : Nat} {pad : Nat → Nat} {bs : List Bool} {rws : List (List Nat)} (h : Made wd rows accs start pad bs rws) : Tidied wd rows accs start pad bs rws := by
 obtain ⟨lp, rp, g, l, h1, h2, h3, h4, _⟩ := h.is
 exact ⟨_, lp, rp, _, g, _, l, h1, h2, h3, h4⟩
/-- The reference's way leads to the same machine. -/
theorem made_spec {wd n size : Nat} {rows : List (List Nat)} {accs : List Bool} {start : Nat} {pad : Nat → Nat} {bs : List Bool} {rws : List (List Nat)} (hm : Made wd rows accs start pad bs rws) {li : List Nat} {rw_ : List (List Int)} (h : Rgt wd n size rows pad start li rw_) (hp : ∀ c, c < wd → pad c < size) (hs0 : 0 < size) :
  ∃ f1 g f2 m, classes (rowsX wd li.length rw_) f1 (first (accsX accs size li)) 0 = some g ∧ byState wd (rowsX wd li.length rw_) g 0 f2 = some (some (m, rws)) ∧ m.map (fun q => (accsX accs size li).getD q false) = bs := by
 obtain ⟨lp, rp, g1, l, h1, h2, h3, rfl, c1, hrp, s1, k1, o1, _⟩ := hm.is
 have c2 := rgt_closed (accs := accs) h
 have hx0 : 0 < (rowsX wd li.length rw_).length := by rw [rowsX_len h]; omega
 obtain ⟨g2, hg2⟩ := classes_end (rows := rowsX wd li.length rw_) ((rowsX wd li.length rw_).length + 1) (first (accsX accs size li)) 0 (by omega) (.inl rfl)
 have k2 := classes_is c2 hx0 hg2
 obtain ⟨m, hm1, hm2⟩ := canon_eq c1 c2 k1 k2 o1 hrp hx0 (s1.trans (rgt_same h hp hs0).symm) h3
 exact ⟨_, g2, _, m, hg2, hm1, hm2.symm⟩
end Go.Proofs.YtnjdkhnepmmfgaaDoor.Ti
namespace Go.Proofs.YtnjdkhnepmmfgaaDoor.Pure
set_option linter.unusedVariables false
set_option linter.unusedSimpArgs false
open Go.RowKit Go.Proofs.YtnjdkhnepmmfgaaDoorW.PrintWords
/-- A step of a loop whose body is told at 'k + 1'. -/
theorem ev_step {α : Type} {g f : Nat → Option α} {r : α} (h : ∀ k, g (k + 1) = f k) (k : Ev f r) : Ev g r := Ev.step h k
theorem ev_const {α : Type} {g : Nat → Option α} {r : α} (h : ∀ k, g (k + 1) = some r) : Ev g r := Ev.step h (Ev.now r)
/-- A step whose body calls. -/
theorem ev_call {α β : Type} {g : Nat → Option α} {c : Nat → Option β} {f : Nat → β → Option α} {b : β} {r : α} (hc : Ev c b) (h : Ev (fun k => f k b) r) (hg : ∀ k, g k = (c k).bind (f k)) : Ev g r :=
 Ev.congr hg (Ev.bind hc h)
theorem ev_some {α β : Type} {c : Option β} {g : Nat → Option α} {f : Nat → β → Option α} {b : β} {r : α} (hc : c = some b) (h : Ev (fun k => f k b) r) (hg : ∀ k, g k = c.bind (f k)) : Ev g r :=
 Ev.congr (fun k => by rw [hg k, hc]; rfl) h
theorem ev_ift {α : Type} {c : Prop} [Decidable c] {x y : Nat → Option α} {r : α} (hc : c) (h : Ev x r) : Ev (fun k => if c then x k else y k) r := Ev.congr (fun _ => if_pos hc) h
theorem ev_iff {α : Type} {c : Prop} [Decidable c] {x y : Nat → Option α} {r : α} (hc : ¬ c) (h : Ev y r) : Ev (fun k => if c then x k else y k) r := Ev.congr (fun _ => if_neg hc) h
/-- A loop over an index from 0 on. -/
theorem ev_up {σ ρ : Type} (l : Nat → Int → σ → Option ρ) (n : Nat) (s : Nat → σ) (r : ρ) (hend : Ev (fun k => l k (n : Int) (s n)) r)
  (hstep : ∀ i, i < n → Ev (fun k => l k ((i : Int) + 1) (s (i + 1))) r → Ev (fun k => l k (i : Int) (s i)) r) : Ev (fun k => l k 0 (s 0)) r := by
 have key : ∀ d i, d + i = n → Ev (fun k => l k (i : Int) (s i)) r := by
  intro d
  induction d with
  | zero => intro i hi; obtain rfl : i = n := (by omega); exact hend
  | succ d ih =>
   intro i hi
   exact hstep i (by omega) (by have := ih (i + 1) (by omega); simpa using this)
 exact key n 0 (by omega)
/-- A loop that copies an element a round. -/
theorem ev_copy {α : Type} (l : Nat → List α → Int → Option (List α)) (xs : List α) (z : α)
  (hend : ∀ ys, ys.length = xs.length → Ev (fun k => l k ys (xs.length : Int)) ys)
  (hstep : ∀ (i : Nat) (hi : i < xs.length) (ys : List α) (r : List α), ys.length = xs.length → Ev (fun k => l k (ys.set i xs[i]) ((i : Int) + 1)) r → Ev (fun k => l k ys (i : Int)) r) :
  Ev (fun k => l k (List.replicate xs.length z) 0) xs := by
 have hs : ∀ i, i < xs.length → (xs.take i ++ List.replicate (xs.length - i) z).set i (xs.getD i z) = xs.take (i + 1) ++ List.replicate (xs.length - (i + 1)) z := by
  intro i hi
  have e : xs.length - i = (xs.length - (i + 1)) + 1 := by omega
  have ht : (xs.take i).length = i := by simp; omega
  rw [e, List.replicate_succ, List.set_append_right _ _ (by omega), ht, Nat.sub_self, List.set_cons_zero]
  have eg : xs.getD i z = xs[i] := by simp [List.getD, List.getElem?_eq_getElem hi]
  rw [eg, List.take_succ_eq_append_getElem hi, List.append_assoc]
  rfl
 have := ev_up (fun k i ys => l k ys i) xs.length (fun i => xs.take i ++ List.replicate (xs.length - i) z) xs (by
   have := hend (xs.take xs.length ++ List.replicate (xs.length - xs.length) z) (by simp)
   simpa using this)
  (fun i hi h => hstep i hi _ _ (by simp; omega) (by
   have e := hs i hi
   have eg : xs.getD i z = xs[i] := by simp [List.getD, List.getElem?_eq_getElem hi]
   rw [eg] at e
   rw [e]
   exact h))
 simpa using this
theorem wrap_up {i : Nat} (h : i < 9223372036854775807) : wrap64 ((i : Int) + 1) = (i : Int) + 1 := by unfold wrap64; omega
theorem wrap_id {i : Int} (h0 : -9223372036854775808 ≤ i) (h : i ≤ 9223372036854775807) : wrap64 i = i := by unfold wrap64; omega
theorem rd_nat (xs : List Int) (i : Nat) (h : i < xs.length) : rd xs (i : Int) = xs[i] := by
 unfold rd; simp [List.getD, List.getElem?_eq_getElem h]
theorem rdOf_nat {α : Type} (d : α) (xs : List α) (i : Nat) (h : i < xs.length) : rdOf d xs (i : Int) = xs[i] := by
 unfold rdOf; simp [List.getD, List.getElem?_eq_getElem h]
theorem getD_nat {α : Type} (xs : List α) (d : α) (i : Nat) (h : i < xs.length) : xs.getD ((i : Int).toNat) d = xs[i] := by
 simp [List.getD, List.getElem?_eq_getElem h]
end Go.Proofs.YtnjdkhnepmmfgaaDoor.Pure
namespace Go.Proofs.YtnjdkhnepmmfgaaDoor.PB1
open Go.RowKit Go.Proofs.YtnjdkhnepmmfgaaDoorW.PrintWords Go.Proofs.YtnjdkhnepmmfgaaDoorW.PrintLast Go.Proofs.YtnjdkhnepmmfgaaDoorW.PrintMore
attribute [local go_sem] max2_int min2_int max_two min_two max_three min_three max_four min_four   -- for this text's walks alone
set_option linter.unusedVariables false
set_option linter.unusedSimpArgs false
def errW : Option Int → Value
 | none => .nilIface
 | some c => .iface 0 (.int .i64 c)
theorem errW_none : errW none = .nilIface := rfl
theorem errW_some (c : Int) : errW (some c) = .iface 0 (.int .i64 c) := rfl
theorem info3 : (Tryd.prog.info? 3).map (fun i => (i.zero, i.size, i.bytes)) = some (some (.int .i64 0), 1, 8) := by kernel_rfl
end Go.Proofs.YtnjdkhnepmmfgaaDoor.PB1
