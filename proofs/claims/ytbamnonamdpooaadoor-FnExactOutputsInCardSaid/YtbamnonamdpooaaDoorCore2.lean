/- Parts of the proof, put together by a program of the session. -/
import Derived.Test.YtbamnonamdpooaaDoorCore0
import Derived.Test.YtbamnonamdpooaaDoorCore1
import Derived.Deep.MidRow
import Derived.Test.YtbamnonamdpooaaDoorCWords
import Derived.Test.YtbamnonamdpooaaDoorCLast
import Derived.Lib.SlicesS
import Derived.Test.YtbamnonamdpooaaDoorProg
import Derived.Below
import Derived.Deep.Draws
import Derived.Deep.AppendLies
import Derived.Maps.AppendAt
import Derived.OwnWalk
import Derived.Laws.BytesArg
import Derived.Laws.MakeOwn
import Derived.Laws.OwnMore
import Derived.Deep.OwnRows
import Derived.Tactics
import Derived.Lib.ConvBytes
import Derived.Laws.Slices
import Derived.WalkKit
import Derived.KernelRfl
import Derived.RowKit3
import Derived.Deep.LoopGhost
import Derived.Deep.QuietTactic
import Derived.BigQuiet
import Derived.WideLaws
import Derived.Deep.DeepCutAuto
import Derived.Deep.CutBlock
import Derived.Deep.RegionHeld3
import Derived.Laws.Rows
import Derived.Lib.AppendStr
import Derived.ArgAppend
import Derived.Laws.IdiomCopy
import Derived.OrdersHeld
import Derived.Laws.BitsLemmas
import Derived.RowKit
import Derived.ChangeKeysEq
import Derived.Test.YtbamnonamdpooaaDoorCTab
import Derived.Test.YtbamnonamdpooaaDoorCFour
import Derived.Test.YtbamnonamdpooaaDoorCQPut
import Derived.Test.YtbamnonamdpooaaDoorCApart
import Derived.Test.YtbamnonamdpooaaDoorCArr
import Derived.Test.YtbamnonamdpooaaDoorCZeros
import Derived.Test.YtbamnonamdpooaaDoorCFoot
import Derived.Test.YtbamnonamdpooaaDoorCKept
import Derived.Test.YtbamnonamdpooaaDoorCShare
import Derived.Test.YtbamnonamdpooaaDoorCN
import Derived.Test.YtbamnonamdpooaaDoorCFootNe
import Derived.Test.YtbamnonamdpooaaDoorCAt
import Derived.Test.YtbamnonamdpooaaDoorCEqStruct
import Derived.Test.YtbamnonamdpooaaDoorCRepsOne
import Derived.Test.YtbamnonamdpooaaDoorCInv
import Derived.Test.YtbamnonamdpooaaDoorCInvWords
import Derived.Test.YtbamnonamdpooaaDoorCGuard
import Derived.Test.YtbamnonamdpooaaDoorCNEv
import Derived.Test.YtbamnonamdpooaaDoorCMore
namespace Go.Proofs.YtbamnonamdpooaaDoor.Td
set_option linter.unusedVariables false
set_option linter.unusedSimpArgs false
open Go.RowKit Go.Proofs.YtbamnonamdpooaaDoorW.PrintWords Go.Proofs.YtbamnonamdpooaaDoorW.PrintLast Go.Proofs.YtbamnonamdpooaaDoorW.PrintMore Mp Kp Ky Fv Tdy Cl Mg
set_option maxHeartbeats 8000000 in
set_option maxRecDepth 100000 in
theorem tidy (T : Nat → ByteArray) (hT : ∀ n, (T n).size ≤ 20) (GI : World → Prop) (hGI : ∀ W W', GI W → Below W.heap.size W W' → GI W')
  (hItoa : ∀ W (n : Nat), GI W → n ≤ 1000000 → Calls Tryd.prog 180 #[.int .i64 (n : Int)] W fun e W' => e = .returned (.string (T n)) ∧ Below W.heap.size W W')
  (hinj : ∀ a b : List Nat, a ≠ [] → b ≠ [] → (∀ x ∈ a, x ≤ 1000000) → (∀ x ∈ b, x ≤ 1000000) → keyB T a = keyB T b → a = b)
  (tapes : Nat) (htp : tapes ≤ 3) (start : Nat) (accs : List Bool) (rows : List (List Nat)) (wd : Nat) (hwd1 : 0 < wd) (hwd2 : wd ≤ 30) (hcl : Closed wd rows accs) (hn : rows.length ≤ 100000) (hst : start < rows.length)
  (hwd : ∀ W, Calls Tryd.prog 124 #[.int .i64 tapes] W fun e W' => e = .returned (.int .i64 wd) ∧ Below W.heap.size W W')
  (dig : Nat → List Nat) (hdl : ∀ c, c < wd → (dig c).length = tapes) (hds : ∀ c, c < wd → ∀ d ∈ dig c, d < 3)
  (hdig : ∀ W c, c < wd → Calls Tryd.prog 69 #[.int .i64 tapes, .int .i64 (c : Int)] W fun e W' => ∃ v, e = .returned v ∧ Kd.R (Kd.int .i64) 3 W' W.heap.size (fun _ => True) v (ints (dig c)) ∧ Below W.heap.size W W')
  (w : World) (hG : GI w) (AA : Option Addr) (ca : Nat) (AN : Option Addr) (cn : Nat) (hA : Kd.C Kd.bool w AA accs.length accs) (hN : Kd.C (Kd.slice 3 (Kd.int .i64)) w AN rows.length (rows.map ints)) (hca : accs.length ≤ ca) (hcn : rows.length ≤ cn) (bs : List Bool) (rws : List (List Nat)) (ht : Tidied wd rows accs start (padOf dig) bs rws) :
  Calls Tryd.prog 114 #[.agg #[.int .i64 tapes, .int .i64 start, .slice AA accs.length ca, .slice AN rows.length cn]] w fun e w' => ∃ vA vN, e = .returned (.agg #[.int .i64 tapes, .int .i64 0, vA, vN]) ∧
   Kd.R Kd.bool 4 w' w.heap.size (fun _ => True) vA bs ∧ Kd.R (Kd.slice 3 (Kd.int .i64)) 97 w' w.heap.size (fun _ => True) vN (rws.map ints) ∧ Below w.heap.size w w' := by
 have hte := Aside0.mk ht.is
 clear ht
 go_enter Tryd.func114, Tryd.ntmps114
 go_wp2_with (first
  | (go_at_call 124; go_loud (with_reducible refine (hwd _).mono ?_); rintro e w1 ⟨rfl, hb1⟩; have bM1 := blk_below (blk_alloc (blk_new w (.cells #[.int .i64 (tapes : Int), .int .i64 (start : Int), .slice AA accs.length ca, .slice AN rows.length cn] 77)) (.cells #[.int .i64 0, .int .i64 0, .slice none 0 0, .slice none 0 0] 77)) hb1; have bR1 := blk_below (blk_at (w.alloc (.cells #[.int .i64 (tapes : Int), .int .i64 (start : Int), .slice AA accs.length ca, .slice AN rows.length cn] 77)) (.cells #[.int .i64 0, .int .i64 0, .slice none 0 0, .slice none 0 0] 77) (w.heap.size + 1) (by simp)) hb1; have hB1 := below_step (below_alloc (below_alloc (Below.refl _ _) _) _) hb1)
  | ((with_reducible refine gate_dst (N := 12) rfl ?_); go_loud (refine Kd.R_make (Kd.int .i64) (w0 := w) w.heap.size 3 rfl (N := 12) rfl 97 _ _ rfl (wd : Int) rfl rfl Tryd.underlying97 (.int .i64 0) 8 GwI.info_int rfl (by decide) (by decide) (0 : Int) (ok := fun _ => True) (okp := fun _ => False) rfl (fun _ h => h.elim) trivial (by omega) (by simp; omega) hB1 (Below.size hB1) ?_; intro v2 w2 hR2 hb2 hg2 hn2; simp only [Int.toNat_natCast] at hR2; obtain ⟨gr, cr, hv2, hgr, hgl, _⟩ := Kd.R_form hR2 (by simp; omega); subst hv2; rw [List.length_replicate] at hR2; have M2 : M w tapes start AA accs.length ca AN rows.length cn w2.heap.size (.slice (some ⟨gr, 0, none⟩) wd cr) (List.replicate wd 0) none (w2.alloc (.cells #[.slice (some ⟨gr, 0, none⟩) wd cr] 97)) := ⟨blk_alloc ((Keep.grown hg2).obj bM1 (by simp)) _, blk_alloc ((Keep.grown hg2).obj bR1 (by simp)) _, blk_new _ _, (by rw [ints_replicate]; exact Kd.R_mono (Kd.R_below hR2 (below_alloc (Below.refl _ _) _)) (fun _ _ => ⟨trivial, by simp⟩)), below_alloc hb2 _⟩; clear bM1 bR1 hR2 hn2 hg2 hb2 hB1)))
 have hws : Aside0 (w.heap.size ≤ w2.heap.size) := ⟨by have := M2.lt; have := M2.bel.size; omega⟩
 go_loopg [15] wd (fun kq v15 wr => ∃ (c : Nat), v15 = .int .i64 (c : Int) ∧ Aside0 (kq = wd - c) ∧ c ≤ wd ∧ Aside0 (M w tapes start AA accs.length ca AN rows.length cn w2.heap.size (.slice (some ⟨gr, 0, none⟩) wd cr) (padsTo dig wd c) none wr))
 case atStart => exact ⟨0, rfl, ⟨by simp⟩, Nat.zero_le _, ⟨by simpa [padsTo] using M2⟩⟩
 case round =>
  clear M2
  obtain ⟨wo, rfl⟩ : ∃ wo : World, wo = wr := ⟨_, rfl⟩
  obtain ⟨c, rfl, hkq, hcw, hM⟩ := hrel
  replace hM := hM.out
  by_cases hlt : c < wd
  ·have c0 : wo.cell? ⟨w.heap.size, 0, none⟩ = some (.int .i64 (tapes : Int)) := (blk_cell hM.bM 0).trans rfl
   have hlt1 : ((c : Int) < (wd : Int)) = True := eq_true (by omega)
   go_wp2_with (go_at_call 69; go_loud (with_reducible refine (hdig _ c hlt).mono ?_); rintro e w3 ⟨v3, rfl, hR3, hb3⟩; obtain ⟨A3, c3, hv3⟩ := Kd.R_slice hR3; subst hv3; rw [ints_length, hdl c hlt] at hR3 ⊢; have h3 := hM.step hb3)
   obtain ⟨hbp, cells, hcp⟩ := row_blk hM.grp (by rw [ints_length, padsTo_at dig hlt, padsAt_length dig hlt]; omega)
   have hgl2 := blk_lt hcp
   have hR4 : Kd.R (Kd.int .i64) 3 w3 wo.heap.size (fun k => True ∧ some k ≠ some gr) (.slice A3 tapes c3) (ints (dig c)) := Kd.R_mono (Kd.R_bound hR3) (fun k hk => ⟨trivial, fun e => by cases e; have := hk.2.1; omega⟩)
   rw [padsTo_at dig hlt] at h3
   clear hR3 hcp cells c0 hgl2
   have hdc := Aside0.mk (hdl c hlt)
   have hdd := Aside0.mk (hds c hlt)
   go_loopg [23] tapes (fun kq v23 wq => ∃ (t p : Nat), v23 = .int .i64 (t : Int) ∧ Aside0 (kq = tapes - t) ∧ t ≤ tapes ∧ p < 8 ∧ Aside0 (padsF p t ((dig c).drop t) = padOf dig c) ∧ Aside0 (Kd.R (Kd.int .i64) 3 wq wo.heap.size (fun k => True ∧ some k ≠ some gr) (.slice A3 tapes c3) (ints (dig c))) ∧ Aside0 (M w tapes start AA accs.length ca AN rows.length cn w2.heap.size (.slice (some ⟨gr, 0, none⟩) wd cr) (padsAt dig wd c p) none wq))
   case atStart => exact ⟨0, 0, rfl, ⟨by simp⟩, Nat.zero_le _, by omega, ⟨rfl⟩, ⟨hR4⟩, ⟨h3⟩⟩
   case round =>
    clear h3 hR4 hb3
    obtain ⟨t, p, rfl, hkt, htt, hp8, HP, hD, hQ⟩ := hrel
    replace hD := hD.out
    replace hQ := hQ.out
    by_cases htl : t < tapes
    ·have hdc2 := hdc.out
     obtain ⟨ad, rfl, k1⟩ := num_at' hD (i := t) (by omega)
     have hdt := hdd.out _ (List.getElem_mem (show t < (dig c).length by omega))
     have HP2 := HP.out
     rw [List.drop_eq_getElem_cons (show t < (dig c).length by omega), padsF] at HP2
     have HP3 := Aside0.mk HP2
     clear HP2 HP
     generalize (dig c)[t]'(by omega) = d at *
     clear hdc2
     have hlt1 : ((t : Int) < (tapes : Int)) = True := eq_true (by omega)
     have h0t : (0 ≤ (t : Int)) = True := eq_true (by omega)
     have hdl2 : d < 3 := hdt
     by_cases hd2 : d = 2
     ·subst d
      have hpl : (padsAt dig wd c p).length = wd := padsAt_length dig hlt
      have k2 := num_at hQ.grp (i := c) (by omega)
      rw [padsAt_get dig (by omega)] at k2
      obtain ⟨hbp2, cells, hcp⟩ := row_blk hQ.grp (by rw [ints_length, hpl]; omega)
      have f2 : wr.frozen? ⟨gr, c, none⟩ = false := blk_frozen hcp c
      have cG : wr.cell? ⟨w2.heap.size, 0, none⟩ = some (.slice (some ⟨gr, 0, none⟩) wd cr) := (blk_cell hQ.bG 0).trans rfl
      have hcw1 : ((c : Int) < (wd : Int)) = True := eq_true (by omega)
      have h0c : (0 ≤ (c : Int)) = True := eq_true (by omega)
      clear hpl hcp cells hdt hdl2
      have htr : t = 0 ∨ t = 1 ∨ t = 2 := by omega
      go_wp2_with fail
      rcases htr with rfl | rfl | rfl
      ·have hor : bits .or .i64 (p : Int) 1 = ((p ||| 1 : Nat) : Int) ∧ p ||| 1 < 8 := or_fact 0 (by omega) p hp8
       have hor1 : bits .or .i64 (p : Int) (wrap64 1) = ((p ||| 1 : Nat) : Int) := by rw [show wrap64 1 = 1 from by kernel_rfl]; exact hor.1
       refine start_ (n := 9) (S := fun w' => w'.cell? ⟨w2.heap.size, 0, none⟩ = some (.slice (some ⟨gr, 0, none⟩) wd cr) ∧ w'.cell? ⟨gr, c, none⟩ = some (.int .i64 (p : Int))) (ds := [8]) (.replicate 9 false) (by kernel_rfl) rfl rfl (⟨cG, k2⟩) (fun hHeld => ?_)
       refine pure_ (i := 1) (N := some 31) (v := ?_) (a' := ?_) (zb 9 2) rfl rfl (by kernel_rfl) (fun _ _ _ h => h) (Or.inl ⟨by rfl, ?_⟩) ?_ ?_
       rotate_left
       ·intro w'
        go_simp
        with_reducible rfl
       rotate_left
       ·simp only [Act.put, Za, Zb, Zc, i64_w, i32_w]
        rfl
       refine pure_ (i := 4) (N := some 34) (v := ?_) (a' := ?_) (zb 9 18) rfl rfl (by kernel_rfl) (fun _ _ _ h => h) (Or.inl ⟨by rfl, ?_⟩) ?_ ?_
       rotate_left
       ·intro w'
        go_simp
        with_reducible rfl
       rotate_left
       ·simp only [Act.put, Za, Zb, Zc, i64_w, i32_w]
        rfl
       refine pure_ (i := 5) (N := some 35) (v := ?_) (a' := ?_) (zb 9 50) rfl rfl (by kernel_rfl) (fun _ _ _ h => h) (Or.inl ⟨by rfl, ?_⟩) ?_ ?_
       rotate_left
       ·intro w'
        go_simp
        with_reducible rfl
       rotate_left
       ·simp only [Act.put, Za, Zb, Zc, i64_w, i32_w]
        rfl
       refine take_ (i := 0) (N := some 30) (v := ?_) (a' := ?_) (zb 9 51) rfl rfl (by kernel_rfl) (fun _ _ _ h => h) (Or.inl ⟨by rfl, ?_⟩) hHeld ?_ ?_
       rotate_left
       ·rintro w' ⟨s1, s2⟩
        go_simp
        with_reducible rfl
       rotate_left
       ·simp only [Act.put, Za, Zb, Zc, i64_w, i32_w]
        rfl
       refine pure_ (i := 2) (N := some 32) (v := ?_) (a' := ?_) (zb 9 55) rfl rfl (by kernel_rfl) (fun _ _ _ h => h) (Or.inl ⟨by rfl, ?_⟩) ?_ ?_
       rotate_left
       ·intro w'
        go_simp
        with_reducible rfl
       rotate_left
       ·simp only [Act.put, Za, Zb, Zc, i64_w, i32_w]
        rfl
       refine take_ (i := 3) (N := some 33) (v := ?_) (a' := ?_) (zb 9 63) rfl rfl (by kernel_rfl) (fun _ _ _ h => h) (Or.inl ⟨by rfl, ?_⟩) hHeld ?_ ?_
       rotate_left
       ·rintro w' ⟨s1, s2⟩
        go_simp
        with_reducible rfl
       rotate_left
       ·simp only [Act.put, Za, Zb, Zc, i64_w, i32_w]
        rfl
       refine pure_ (i := 6) (N := some 36) (v := ?_) (a' := ?_) (zb 9 127) rfl rfl (by kernel_rfl) (fun _ _ _ h => h) (Or.inl ⟨by rfl, ?_⟩) ?_ ?_
       rotate_left
       ·intro w'
        go_simp
        with_reducible rfl
       rotate_left
       ·simp only [Act.put, Za, Zb, Zc, i64_w, i32_w]
        rfl
       refine pure_ (i := 7) (N := some 37) (v := ?_) (a' := ?_) (zb 9 255) rfl rfl (by kernel_rfl) (fun _ _ _ h => h) (Or.inl ⟨by rfl, ?_⟩) ?_ ?_
       rotate_left
       ·intro w'
        go_simp
        with_reducible rfl
       rotate_left
       ·simp only [Act.put, Za, Zb, Zc, i64_w, i32_w]
        rfl
       have hq1 := hHeld.2
       have hf1 : wr.drew.frozen? ⟨gr, c, none⟩ = false := f2
       refine last_ (i := 8) (N := none) (zb 9 511) rfl rfl (by kernel_rfl) (by decide) (fun K hK => ?_)
       refine skip_ (w1 := wr.drew.setCell ⟨gr, c, none⟩ (.int .i64 ((p ||| 1 : Nat) : Int))) (by rfl) rfl (by first | (go_simp; done) | (go_simp; rfl)) ?_
       refine hK.out _ _ ?_
       clear hK K
       refine done_ (by kernel_rfl) ?_
       have hM5 := (hQ.step (below_drew1 (Below.refl _ _))).put hbp2 c (p ||| 1)
       rw [padsAt_set] at hM5
       have hD5 := R_apart (Kd.R_below hD (below_drew1 (Below.refl _ _))) (Keep.set wr.drew ⟨gr, c, none⟩ (.int .i64 ((p ||| 1 : Nat) : Int)))
       go_wp2_with fail
       go_roundg (tapes - (0 + 1))
       case measure => have := hkt.out; omega
       case rel => exact ⟨1, p ||| 1, (by go_num), ⟨by simp⟩, by omega, hor.2, ⟨by have := HP3.out; rw [if_pos trivial] at this; exact this⟩, ⟨hD5⟩, ⟨hM5⟩⟩
      ·have hor : bits .or .i64 (p : Int) 2 = ((p ||| 2 : Nat) : Int) ∧ p ||| 2 < 8 := or_fact 1 (by omega) p hp8
       have hor1 : bits .or .i64 (p : Int) (wrap64 2) = ((p ||| 2 : Nat) : Int) := by rw [show wrap64 2 = 2 from by kernel_rfl]; exact hor.1
       refine start_ (n := 9) (S := fun w' => w'.cell? ⟨w2.heap.size, 0, none⟩ = some (.slice (some ⟨gr, 0, none⟩) wd cr) ∧ w'.cell? ⟨gr, c, none⟩ = some (.int .i64 (p : Int))) (ds := [8]) (.replicate 9 false) (by kernel_rfl) rfl rfl (⟨cG, k2⟩) (fun hHeld => ?_)
       refine pure_ (i := 1) (N := some 31) (v := ?_) (a' := ?_) (zb 9 2) rfl rfl (by kernel_rfl) (fun _ _ _ h => h) (Or.inl ⟨by rfl, ?_⟩) ?_ ?_
       rotate_left
       ·intro w'
        go_simp
        with_reducible rfl
       rotate_left
       ·simp only [Act.put, Za, Zb, Zc, i64_w, i32_w]
        rfl
       refine pure_ (i := 4) (N := some 34) (v := ?_) (a' := ?_) (zb 9 18) rfl rfl (by kernel_rfl) (fun _ _ _ h => h) (Or.inl ⟨by rfl, ?_⟩) ?_ ?_
       rotate_left
       ·intro w'
        go_simp
        with_reducible rfl
       rotate_left
       ·simp only [Act.put, Za, Zb, Zc, i64_w, i32_w]
        rfl
       refine pure_ (i := 5) (N := some 35) (v := ?_) (a' := ?_) (zb 9 50) rfl rfl (by kernel_rfl) (fun _ _ _ h => h) (Or.inl ⟨by rfl, ?_⟩) ?_ ?_
       rotate_left
       ·intro w'
        go_simp
        with_reducible rfl
       rotate_left
       ·simp only [Act.put, Za, Zb, Zc, i64_w, i32_w]
        rfl
       refine take_ (i := 0) (N := some 30) (v := ?_) (a' := ?_) (zb 9 51) rfl rfl (by kernel_rfl) (fun _ _ _ h => h) (Or.inl ⟨by rfl, ?_⟩) hHeld ?_ ?_
       rotate_left
       ·rintro w' ⟨s1, s2⟩
        go_simp
        with_reducible rfl
       rotate_left
       ·simp only [Act.put, Za, Zb, Zc, i64_w, i32_w]
        rfl
       refine pure_ (i := 2) (N := some 32) (v := ?_) (a' := ?_) (zb 9 55) rfl rfl (by kernel_rfl) (fun _ _ _ h => h) (Or.inl ⟨by rfl, ?_⟩) ?_ ?_
       rotate_left
       ·intro w'
        go_simp
        with_reducible rfl
       rotate_left
       ·simp only [Act.put, Za, Zb, Zc, i64_w, i32_w]
        rfl
       refine take_ (i := 3) (N := some 33) (v := ?_) (a' := ?_) (zb 9 63) rfl rfl (by kernel_rfl) (fun _ _ _ h => h) (Or.inl ⟨by rfl, ?_⟩) hHeld ?_ ?_
       rotate_left
       ·rintro w' ⟨s1, s2⟩
        go_simp
        with_reducible rfl
       rotate_left
       ·simp only [Act.put, Za, Zb, Zc, i64_w, i32_w]
        rfl
       refine pure_ (i := 6) (N := some 36) (v := ?_) (a' := ?_) (zb 9 127) rfl rfl (by kernel_rfl) (fun _ _ _ h => h) (Or.inl ⟨by rfl, ?_⟩) ?_ ?_
       rotate_left
       ·intro w'
        go_simp
        with_reducible rfl
       rotate_left
       ·simp only [Act.put, Za, Zb, Zc, i64_w, i32_w]
        rfl
       refine pure_ (i := 7) (N := some 37) (v := ?_) (a' := ?_) (zb 9 255) rfl rfl (by kernel_rfl) (fun _ _ _ h => h) (Or.inl ⟨by rfl, ?_⟩) ?_ ?_
       rotate_left
       ·intro w'
        go_simp
        with_reducible rfl
       rotate_left
       ·simp only [Act.put, Za, Zb, Zc, i64_w, i32_w]
        rfl
       have hq1 := hHeld.2
       have hf1 : wr.drew.frozen? ⟨gr, c, none⟩ = false := f2
       refine last_ (i := 8) (N := none) (zb 9 511) rfl rfl (by kernel_rfl) (by decide) (fun K hK => ?_)
       refine skip_ (w1 := wr.drew.setCell ⟨gr, c, none⟩ (.int .i64 ((p ||| 2 : Nat) : Int))) (by rfl) rfl (by first | (go_simp; done) | (go_simp; rfl)) ?_
       refine hK.out _ _ ?_
       clear hK K
       refine done_ (by kernel_rfl) ?_
       have hM5 := (hQ.step (below_drew1 (Below.refl _ _))).put hbp2 c (p ||| 2)
       rw [padsAt_set] at hM5
       have hD5 := R_apart (Kd.R_below hD (below_drew1 (Below.refl _ _))) (Keep.set wr.drew ⟨gr, c, none⟩ (.int .i64 ((p ||| 2 : Nat) : Int)))
       go_wp2_with fail
       go_roundg (tapes - (1 + 1))
       case measure => have := hkt.out; omega
       case rel => exact ⟨2, p ||| 2, (by go_num), ⟨by simp⟩, by omega, hor.2, ⟨by have := HP3.out; rw [if_pos trivial] at this; exact this⟩, ⟨hD5⟩, ⟨hM5⟩⟩
      ·have hor : bits .or .i64 (p : Int) 4 = ((p ||| 4 : Nat) : Int) ∧ p ||| 4 < 8 := or_fact 2 (by omega) p hp8
       have hor1 : bits .or .i64 (p : Int) (wrap64 4) = ((p ||| 4 : Nat) : Int) := by rw [show wrap64 4 = 4 from by kernel_rfl]; exact hor.1
       refine start_ (n := 9) (S := fun w' => w'.cell? ⟨w2.heap.size, 0, none⟩ = some (.slice (some ⟨gr, 0, none⟩) wd cr) ∧ w'.cell? ⟨gr, c, none⟩ = some (.int .i64 (p : Int))) (ds := [8]) (.replicate 9 false) (by kernel_rfl) rfl rfl (⟨cG, k2⟩) (fun hHeld => ?_)
       refine pure_ (i := 1) (N := some 31) (v := ?_) (a' := ?_) (zb 9 2) rfl rfl (by kernel_rfl) (fun _ _ _ h => h) (Or.inl ⟨by rfl, ?_⟩) ?_ ?_
       rotate_left
       ·intro w'
        go_simp
        with_reducible rfl
       rotate_left
       ·simp only [Act.put, Za, Zb, Zc, i64_w, i32_w]
        rfl
       refine pure_ (i := 4) (N := some 34) (v := ?_) (a' := ?_) (zb 9 18) rfl rfl (by kernel_rfl) (fun _ _ _ h => h) (Or.inl ⟨by rfl, ?_⟩) ?_ ?_
       rotate_left
       ·intro w'
        go_simp
        with_reducible rfl
       rotate_left
       ·simp only [Act.put, Za, Zb, Zc, i64_w, i32_w]
        rfl
       refine pure_ (i := 5) (N := some 35) (v := ?_) (a' := ?_) (zb 9 50) rfl rfl (by kernel_rfl) (fun _ _ _ h => h) (Or.inl ⟨by rfl, ?_⟩) ?_ ?_
       rotate_left
       ·intro w'
        go_simp
        with_reducible rfl
       rotate_left
       ·simp only [Act.put, Za, Zb, Zc, i64_w, i32_w]
        rfl
       refine take_ (i := 0) (N := some 30) (v := ?_) (a' := ?_) (zb 9 51) rfl rfl (by kernel_rfl) (fun _ _ _ h => h) (Or.inl ⟨by rfl, ?_⟩) hHeld ?_ ?_
       rotate_left
       ·rintro w' ⟨s1, s2⟩
        go_simp
        with_reducible rfl
       rotate_left
       ·simp only [Act.put, Za, Zb, Zc, i64_w, i32_w]
        rfl
       refine pure_ (i := 2) (N := some 32) (v := ?_) (a' := ?_) (zb 9 55) rfl rfl (by kernel_rfl) (fun _ _ _ h => h) (Or.inl ⟨by rfl, ?_⟩) ?_ ?_
       rotate_left
       ·intro w'
        go_simp
        with_reducible rfl
       rotate_left
       ·simp only [Act.put, Za, Zb, Zc, i64_w, i32_w]
        rfl
       refine take_ (i := 3) (N := some 33) (v := ?_) (a' := ?_) (zb 9 63) rfl rfl (by kernel_rfl) (fun _ _ _ h => h) (Or.inl ⟨by rfl, ?_⟩) hHeld ?_ ?_
       rotate_left
       ·rintro w' ⟨s1, s2⟩
        go_simp
        with_reducible rfl
       rotate_left
       ·simp only [Act.put, Za, Zb, Zc, i64_w, i32_w]
        rfl
       refine pure_ (i := 6) (N := some 36) (v := ?_) (a' := ?_) (zb 9 127) rfl rfl (by kernel_rfl) (fun _ _ _ h => h) (Or.inl ⟨by rfl, ?_⟩) ?_ ?_
       rotate_left
       ·intro w'
        go_simp
        with_reducible rfl
       rotate_left
       ·simp only [Act.put, Za, Zb, Zc, i64_w, i32_w]
        rfl
       refine pure_ (i := 7) (N := some 37) (v := ?_) (a' := ?_) (zb 9 255) rfl rfl (by kernel_rfl) (fun _ _ _ h => h) (Or.inl ⟨by rfl, ?_⟩) ?_ ?_
       rotate_left
       ·intro w'
        go_simp
        with_reducible rfl
       rotate_left
       ·simp only [Act.put, Za, Zb, Zc, i64_w, i32_w]
        rfl
       have hq1 := hHeld.2
       have hf1 : wr.drew.frozen? ⟨gr, c, none⟩ = false := f2
       refine last_ (i := 8) (N := none) (zb 9 511) rfl rfl (by kernel_rfl) (by decide) (fun K hK => ?_)
       refine skip_ (w1 := wr.drew.setCell ⟨gr, c, none⟩ (.int .i64 ((p ||| 4 : Nat) : Int))) (by rfl) rfl (by first | (go_simp; done) | (go_simp; rfl)) ?_
       refine hK.out _ _ ?_
       clear hK K
       refine done_ (by kernel_rfl) ?_
       have hM5 := (hQ.step (below_drew1 (Below.refl _ _))).put hbp2 c (p ||| 4)
       rw [padsAt_set] at hM5
       have hD5 := R_apart (Kd.R_below hD (below_drew1 (Below.refl _ _))) (Keep.set wr.drew ⟨gr, c, none⟩ (.int .i64 ((p ||| 4 : Nat) : Int)))
       go_wp2_with fail
       go_roundg (tapes - (2 + 1))
       case measure => have := hkt.out; omega
       case rel => exact ⟨3, p ||| 4, (by go_num), ⟨by simp⟩, by omega, hor.2, ⟨by have := HP3.out; rw [if_pos trivial] at this; exact this⟩, ⟨hD5⟩, ⟨hM5⟩⟩
     ·have he : ((d : Int) == 2) = false := beq_eq_false_iff_ne.2 (by omega)
      go_wp2_with fail
      go_roundg (tapes - (t + 1))
      case measure => have := hkt.out; omega
      case rel => exact ⟨t + 1, p, (by go_num), ⟨by simp⟩, by omega, hp8, ⟨by rw [← HP3.out, if_neg hd2]⟩, ⟨hD⟩, ⟨hQ⟩⟩
    ·have htt2 : t = tapes := by omega
     subst htt2
     have hlt1 : ((t : Int) < (t : Int)) = False := eq_false (by omega)
     have HP2 := HP.out
     rw [List.drop_of_length_le (by have := hdc.out; omega), padsF] at HP2
     subst HP2
     rw [padsAt_to] at hQ
     go_wp2_with fail
     go_roundg (wd - (c + 1))
     case measure => have := hkq.out; omega
     case rel => exact ⟨c + 1, (by go_num), ⟨by simp⟩, by omega, ⟨hQ⟩⟩
  ·have hcc : c = wd := by omega
   subst hcc
   have hlt1 : ((c : Int) < (c : Int)) = False := eq_false (by omega)
   have c0 : wo.cell? ⟨w.heap.size, 0, none⟩ = some (.int .i64 (tapes : Int)) := (blk_cell hM.bM 0).trans rfl
   have c1 : wo.cell? ⟨w.heap.size, 1, none⟩ = some (.int .i64 (start : Int)) := (blk_cell hM.bM 1).trans rfl
   have hp0 : padsTo dig c c = (List.range c).map (padOf dig) := by simp [padsTo]
   rw [hp0] at hM
   clear hp0 hkq
   have hmach : Mach wo w.heap.size tapes start accs (rows.map ints) := ⟨AA, ca, AN, cn, by rw [List.length_map]; exact hM.bM, Kd.C_below hA hM.bel, by rw [List.length_map]; exact Kd.C_below hN hM.bel, hca, by rw [List.length_map]; exact hcn⟩
   have hnum : Nums wo w2.heap.size (ints ((List.range c).map (padOf dig))) := by
    obtain ⟨e, h1, h2⟩ := Kd.R_reads' hM.grp
    exact ⟨_, cr, by rw [← e]; exact hM.bG, h2, by rw [← e]; exact h1⟩
   have hpad : ∀ x, x < c → padOf dig x < 8 := fun x hx => padsF_lt _ _ _ (by omega) (by have := hdl x hx; omega)
   obtain ⟨f, lp, rp, f1, g, f2, l, hbf, hcs, hby, hbs⟩ := hte.out
   have hgr := grownP tapes start accs rows c hwd2 hcl hn hst hwd (padOf dig) hpad w.heap.size w2.heap.size wo hmach hnum f lp rp hbf
   have hlen := places_len (n := rows.length) hbf (.inr ⟨start, 0, hst, by omega, rfl⟩) (fun p x hp hx => met8_next hcl hpad hp hx)
   have hd := bfs_done f 0 [((start : Int), (0 : Int))] [] lp rp hbf (Nat.zero_le _) rfl (List.pairwise_singleton _ _) (fun r hr => by cases hr) (fun i hi => by cases hi)
   have hcl3 := Aside0.mk (done_closed (accP accs) hd.1)
   obtain ⟨mm, hmm⟩ := hd.2
   have hrl : rp.length = lp.length := hd.1.len
   have hr0 : 0 < rp.length := by rw [hrl, hmm, List.length_append, List.length_singleton]; omega
   have hr1 : rp.length ≤ 1000000 := by omega
   have hla : (lp.map (accP accs)).length = rp.length := by rw [List.length_map, hrl]
   have hcs2 := Aside0.mk hcs
   have hby2 := Aside0.mk hby
   have hla2 := Aside0.mk hla
   have hbs2 := Aside0.mk hbs
   have hbR := hM.bR
   have hB := hM.bel
   clear hmm hd hbf hlen hmach hnum hcs hby hrl hbs hM hla
   generalize lp.map (accP accs) = ac at *
   go_wp2_with (first
    | (go_at_call 159; go_loud (refine hgr.mono ?_; rintro e w6 ⟨vA, vN, rfl, r1, r2, hb6⟩; clear hgr; have hla3 := hla2.out; have hC1 := Kd.R_reads r1; have hC2 := Kd.R_reads r2; obtain ⟨A1, c1, rfl, hc1, hC1⟩ := hC1; obtain ⟨A2, c2, rfl, hc2, hC2⟩ := hC2; rw [List.length_map] at r2 hC2 hc2 ⊢; clear hla3; have hB7 := below_alloc (below_step hB hb6) (.cells #[.int .i64 (tapes : Int), .int .i64 0, .slice A1 ac.length c1, .slice A2 rp.length c2] 77); have bR7 := blk_alloc (blk_below hbR hb6) (.cells #[.int .i64 (tapes : Int), .int .i64 0, .slice A1 ac.length c1, .slice A2 rp.length c2] 77)))
    | (go_at_call 162; go_loud (refine Calls.mono (merged T hT GI hGI hItoa hinj tapes 0 ac rp c hwd2 hcl3.out hr1 hr0 hwd _ (hGI _ _ hG hB7) A1 c1 A2 c2 (Kd.C_below hC1 (below_alloc (Below.refl _ _) _)) (Kd.C_below hC2 (below_alloc (Below.refl _ _) _)) hc1 hc2 f1 g hcs2.out f2 l rws hby2.out) ?_; rintro e w8 ⟨vA, vN, rfl, q1, q2, hb8⟩; obtain ⟨A3, c3, rfl⟩ := Kd.R_slice q1; obtain ⟨A4, c4, rfl⟩ := Kd.R_slice q2; rw [List.length_map] at q1 q2 ⊢; rw [List.length_map]; have b0 := blk_below bR7 hb8; have e0 : w8.cell? ⟨w.heap.size + 1, 0, none⟩ = some (.int .i64 0) := (blk_cell b0 0).trans rfl; have e1 : w8.cell? ⟨w.heap.size + 1, 1, none⟩ = some (.int .i64 0) := (blk_cell b0 1).trans rfl; have e2 : w8.cell? ⟨w.heap.size + 1, 2, none⟩ = some (.slice none 0 0) := (blk_cell b0 2).trans rfl; have e3 : w8.cell? ⟨w.heap.size + 1, 3, none⟩ = some (.slice none 0 0) := (blk_cell b0 3).trans rfl; have g0 : w8.frozen? ⟨w.heap.size + 1, 0, none⟩ = false := blk_frozen b0 0; have g1 : w8.frozen? ⟨w.heap.size + 1, 1, none⟩ = false := blk_frozen b0 1; have g2 : w8.frozen? ⟨w.heap.size + 1, 2, none⟩ = false := blk_frozen b0 2; have g3 : w8.frozen? ⟨w.heap.size + 1, 3, none⟩ = false := blk_frozen b0 3)))
   have hB8 := below_step hB7 hb8
   have q3 := Kd.R_lower q1 (Below.size hB7)
   have q4 := Kd.R_lower q2 (Below.size hB7)
   have b1 := blk_put b0 0 (.int .i64 (tapes : Int)) rfl
   have b2 := blk_put b1 1 (.int .i64 0) rfl
   have b3 := blk_put b2 2 (.slice A3 l.length c3) rfl
   have b4 := blk_put b3 3 (.slice A4 rws.length c4) rfl
   refine bodyPost_ret (results_cell_row rfl _ _ (w.heap.size + 1) 77 #[.int .i64 tapes, .int .i64 0, .slice A3 l.length c3, .slice A4 rws.length c4] (0, 0) _ rfl b4 Tryd.underlying77 rfl (by kernel_rfl)) rfl ⟨_, _, rfl, ?_, ?_, ?_⟩
   ·rw [hbs2.out]
    exact Kd.R_set (Kd.R_set (Kd.R_set (Kd.R_set q3 b0 (by decide) 0 _) b1 (by decide) 1 _) b2 (by decide) 2 _) b3 (by decide) 3 _
   ·exact Kd.R_set (Kd.R_set (Kd.R_set (Kd.R_set q4 b0 (by decide) 0 _) b1 (by decide) 1 _) b2 (by decide) 2 _) b3 (by decide) 3 _
   ·exact (((hB8.setCell (by simp) _).setCell (by simp) _).setCell (by simp) _).setCell (by simp) _
end Go.Proofs.YtbamnonamdpooaaDoor.Td
namespace Go.Proofs.YtbamnonamdpooaaDoor.Mo
set_option linter.unusedVariables false
set_option linter.unusedSimpArgs false
open Go.RowKit Go.Proofs.YtbamnonamdpooaaDoorW.PrintWords Go.Proofs.YtbamnonamdpooaaDoorW.PrintLast Go.Proofs.YtbamnonamdpooaaDoorW.PrintMore Kp Cl Mg
theorem clone (W : World) (A : Option Addr) (c : Nat) (xs : List Bool) (h0 : 0 < xs.length) (hn : xs.length ≤ 1000000) (hC : Kd.C Kd.bool W A xs.length xs) :
  Calls Tryd.prog 91 #[.slice A xs.length c] W fun e W' => ∃ v, e = .returned v ∧ Kd.R Kd.bool 4 W' W.heap.size (fun _ => True) v xs ∧ Below W.heap.size W W' := by
 obtain ⟨⟨b, off, sp⟩, rfl, k0⟩ := at_mark hC 0 h0
 have hsp : sp = none := by
  unfold World.cell? Addr.add at k0
  rw [if_pos rfl] at k0
  split at k0
  ·cases sp with
   | none => rfl
   | some s => simp at k0
  ·cases k0
 subst hsp
 have hc : ∀ j u, (xs.map Value.bool)[j]? = some u → W.cell? ⟨b, off + j, none⟩ = some u := by
  intro j u hj
  obtain ⟨y, hy, rfl⟩ := List.getElem?_map .. ▸ hj |> Option.map_eq_some_iff.1
  obtain ⟨hlt, rfl⟩ := List.getElem?_eq_some_iff.1 hy
  obtain ⟨ad, e, k⟩ := at_mark hC j hlt
  cases e
  have ea : (⟨b, off, none⟩ : Addr).add j = ⟨b, off + j, none⟩ := by
   by_cases h0 : j = 0
   ·subst h0; rfl
   ·simp [Addr.add, h0]
  rw [ea] at k
  exact k
 have hi := GwI.info_bool
 obtain ⟨i0, h1, h2⟩ := Option.map_eq_some_iff.1 hi
 simp only [Prod.mk.injEq] at h2
 have h := Tryd.slices_Clone_f91 i0 (.bool false) 1 1 h1 h2.1 h2.2.1 h2.2.2 rfl (by decide) Tryd.sizeOf4 b off xs.length c (xs.map Value.bool) W (by simp) (by unfold maxLen; omega) (by omega) hc (by intro u hu; obtain ⟨y, _, rfl⟩ := List.mem_map.1 hu; rfl)
 refine Calls.mono h ?_
 rintro e W' ⟨v, rfl, ho, hne, hb⟩
 exact ⟨v, rfl, Kd.R_of_own ho (fun _ _ => trivial), hb⟩
/-- The relation that is read, and the result. -/
structure Pr (w0 : World) (a0 a1 : Int) (AA : Option Addr) (na ca : Nat) (AN : Option Addr) (nn cn : Nat) (W : World) : Prop where
 bP : W.heap[w0.heap.size]? = some (.cells #[.int .i64 a0, .int .i64 a1, .slice AA na ca, .slice AN nn cn] 29 (0, 0))
 bR : W.heap[w0.heap.size + 1]? = some (.cells #[.int .i64 0, .int .i64 0, .slice none 0 0, .slice none 0 0] 77 (0, 0))
 bel : Below w0.heap.size w0 W
section
variable {w0 : World} {a0 a1 : Int} {AA : Option Addr} {na ca : Nat} {AN : Option Addr} {nn cn : Nat} {W W' : World}
theorem Pr.step (h : Pr w0 a0 a1 AA na ca AN nn cn W) (hb : Below W.heap.size W W') : Pr w0 a0 a1 AA na ca AN nn cn W' := ⟨blk_below h.bP hb, blk_below h.bR hb, below_step h.bel hb⟩
theorem Pr.lt (h : Pr w0 a0 a1 AA na ca AN nn cn W) : w0.heap.size + 1 < W.heap.size := blk_lt h.bR
end
/-- .. and the machine that is made; x: the row that is made. -/
structure Mk (w0 : World) (a0 a1 : Int) (AA : Option Addr) (na ca : Nat) (AN : Option Addr) (nn cn : Nat) (gl : Nat) (vA : Value) (bs : List Bool) (vN : Value) (rws : List (List Int)) (x : Option Nat) (W : World) : Prop where
 p : Pr w0 a0 a1 AA na ca AN nn cn W
 bV : W.heap[gl]? = some (.cells #[.int .i64 a0, .int .i64 a1, vA, vN] 77 (0, 0))
 acc : Kd.R Kd.bool 4 W w0.heap.size (fun _ => True) vA bs
 nxt : Kd.R (Kd.slice 3 (Kd.int .i64)) 97 W w0.heap.size (fun k => True ∧ some k ≠ x) vN rws
section
variable {w0 : World} {a0 a1 : Int} {AA : Option Addr} {na ca : Nat} {AN : Option Addr} {nn cn gl : Nat} {vA vN : Value} {bs : List Bool} {rws : List (List Int)} {x : Option Nat} {W W' : World}
theorem Mk.step (h : Mk w0 a0 a1 AA na ca AN nn cn gl vA bs vN rws x W) (hb : Below W.heap.size W W') : Mk w0 a0 a1 AA na ca AN nn cn gl vA bs vN rws x W' := ⟨h.p.step hb, blk_below h.bV hb, Kd.R_below h.acc hb, Kd.R_below h.nxt hb⟩
/-- A number is put behind the row. -/
theorem Mk.more {vr v1 : Value} {r : List Int} {b : Nat} (h : Mk w0 a0 a1 AA na ca AN nn cn gl vA bs vN rws vr.ownBlock W) (hr : Kd.R (Kd.int .i64) 3 W b (fun _ => True) vr r) (hg : W.grownBy W' vr.ownBlock) (hat : v1.ownBlock = vr.ownBlock ∨ ∃ b, v1.ownBlock = some b ∧ W.heap.size ≤ b) (hb : Below w0.heap.size w0 W') : Mk w0 a0 a1 AA na ca AN nn cn gl vA bs vN rws v1.ownBlock W' := by
 have hk := Keep.grown hg
 have o : ∀ E : List Nat, (∀ q ∈ E, q ≠ 3) → Off W vr.ownBlock E := fun E hE => Off.row hr hE
 exact ⟨⟨hk.obj h.p.bP (off_ne h.p.bP (o _ (by decide))), hk.obj h.p.bR (off_ne h.p.bR (o _ (by decide))), hb⟩, hk.obj h.bV (off_ne h.bV (o _ (by decide))), R_off h.acc hk (o _ (by decide)), Kd.R_after h.nxt hg hat⟩
/-- The row is put behind the others. -/
theorem Mk.push {v1 : Value} {rws' : List (List Int)} (h : Mk w0 a0 a1 AA na ca AN nn cn gl vA bs vN rws x W) (hg : W.grownBy W' vN.ownBlock) (hR : Kd.R (Kd.slice 3 (Kd.int .i64)) 97 W' w0.heap.size (fun _ => True) v1 rws') (hb : Below w0.heap.size w0 W') (hgl : w0.heap.size + 1 < gl) :
  W'.heap[gl]? = some (.cells #[.int .i64 a0, .int .i64 a1, vA, vN] 77 (0, 0)) ∧ Mk w0 a0 a1 AA na ca AN nn cn gl vA bs v1 rws' none (W'.setCell ⟨gl, 3, none⟩ v1) := by
 have hk := Keep.grown hg
 have o : ∀ E : List Nat, (∀ q ∈ E, q ≠ 97) → Off W vN.ownBlock E := fun E hE => Off.row h.nxt hE
 have bV := hk.obj h.bV (off_ne h.bV (o _ (by decide)))
 refine ⟨bV, ?_⟩
 have hs := Keep.set W' ⟨gl, 3, none⟩ v1
 have p : ∀ E : List Nat, (∀ q ∈ E, q ≠ 77) → Off W' (some gl) E := fun E hE => Off.cells bV hE
 have n0 : some w0.heap.size ≠ some gl := fun e => by injection e; omega
 have n1 : some (w0.heap.size + 1) ≠ some gl := fun e => by injection e; omega
 exact ⟨⟨hs.obj (hk.obj h.p.bP (off_ne h.p.bP (o _ (by decide)))) n0, hs.obj (hk.obj h.p.bR (off_ne h.p.bR (o _ (by decide)))) n1, hb.setCell (p := ⟨gl, 3, none⟩) (by simp only; omega) v1⟩, blk_put bV 3 v1 rfl, R_off (R_off h.acc hk (o _ (by decide))) hs (p _ (by decide)), Kd.R_mono (R_off hR hs (p _ (by decide))) (fun _ _ => ⟨trivial, by simp⟩)⟩
end
set_option maxHeartbeats 8000000 in
set_option maxRecDepth 100000 in
theorem machineOf (a0 a1 : Int) (accs : List Bool) (rows : List (List Int)) (h0 : 0 < accs.length) (hn : accs.length ≤ 1000000) (hn2 : rows.length ≤ 1000000) (hn3 : ∀ r ∈ rows, r.length ≤ 1000000) (w : World) (AA : Option Addr) (ca : Nat) (AN : Option Addr) (cn : Nat) (hA : Kd.C Kd.bool w AA accs.length accs) (hca : accs.length ≤ ca) (hN : Kd.C (Kd.slice 2 (Kd.int .i64)) w AN rows.length rows) (hcn : rows.length ≤ cn) :
  Calls Tryd.prog 113 #[.agg #[.int .i64 a0, .int .i64 a1, .slice AA accs.length ca, .slice AN rows.length cn]] w fun e w' => ∃ vA vN, e = .returned (.agg #[.int .i64 a0, .int .i64 a1, vA, vN]) ∧
   Kd.R Kd.bool 4 w' w.heap.size (fun _ => True) vA accs ∧ Kd.R (Kd.slice 3 (Kd.int .i64)) 97 w' w.heap.size (fun _ => True) vN rows ∧ Below w.heap.size w w' := by
 go_enter Tryd.func113, Tryd.ntmps113
 go_wp2
 have hP : Pr w a0 a1 AA accs.length ca AN rows.length cn ((w.alloc (.cells #[.int .i64 a0, .int .i64 a1, .slice AA accs.length ca, .slice AN rows.length cn] 29)).alloc (.cells #[.int .i64 0, .int .i64 0, .slice none 0 0, .slice none 0 0] 77)) :=
  ⟨blk_alloc (blk_new _ _) _, blk_at _ _ _ (by simp), below_alloc (below_alloc (Below.refl _ _) _) _⟩
 have hPd := hP.step (below_drew1 (Below.refl _ _))
 clear hP
 generalize hwd : (w.alloc (.cells #[.int .i64 a0, .int .i64 a1, .slice AA accs.length ca, .slice AN rows.length cn] 29)).alloc (.cells #[.int .i64 0, .int .i64 0, .slice none 0 0, .slice none 0 0] 77) = wd at *
 have hSS : ∀ W', Pr w a0 a1 AA accs.length ca AN rows.length cn W' → (fun w' => w'.cell? ⟨w.heap.size, 0, none⟩ = some (.int .i64 a0) ∧ w'.cell? ⟨w.heap.size, 1, none⟩ = some (.int .i64 a1) ∧ w'.cell? ⟨w.heap.size, 2, none⟩ = some (.slice AA accs.length ca)) W' := fun W' h => ⟨(blk_cell h.bP 0).trans rfl, (blk_cell h.bP 1).trans rfl, (blk_cell h.bP 2).trans rfl⟩
 refine start_ (n := 10) (S := fun w' => w'.cell? ⟨w.heap.size, 0, none⟩ = some (.int .i64 a0) ∧ w'.cell? ⟨w.heap.size, 1, none⟩ = some (.int .i64 a1) ∧ w'.cell? ⟨w.heap.size, 2, none⟩ = some (.slice AA accs.length ca)) (ds := [9]) (.replicate 10 false) (by kernel_rfl) rfl rfl (hSS _ hPd) (fun hHeld => ?_)
 refine pure_ (i := 0) (N := some 9) (v := ?_) (a' := ?_) (zb 10 1) rfl rfl (by kernel_rfl) (fun _ _ _ h => h) (Or.inl ⟨by rfl, ?_⟩) ?_ ?_
 rotate_left
 ·intro w'
  go_simp
  with_reducible rfl
 rotate_left
 ·simp only [Act.put, Za, Zb, Zc, i64_w, i32_w]
  rfl
 refine pure_ (i := 2) (N := some 11) (v := ?_) (a' := ?_) (zb 10 5) rfl rfl (by kernel_rfl) (fun _ _ _ h => h) (Or.inl ⟨by rfl, ?_⟩) ?_ ?_
 rotate_left
 ·intro w'
  go_simp
  with_reducible rfl
 rotate_left
 ·simp only [Act.put, Za, Zb, Zc, i64_w, i32_w]
  rfl
 refine pure_ (i := 4) (N := some 13) (v := ?_) (a' := ?_) (zb 10 21) rfl rfl (by kernel_rfl) (fun _ _ _ h => h) (Or.inl ⟨by rfl, ?_⟩) ?_ ?_
 rotate_left
 ·intro w'
  go_simp
  with_reducible rfl
 rotate_left
 ·simp only [Act.put, Za, Zb, Zc, i64_w, i32_w]
  rfl
 refine take_ (i := 1) (N := some 10) (v := ?_) (a' := ?_) (zb 10 23) rfl rfl (by kernel_rfl) (fun _ _ _ h => h) (Or.inl ⟨by rfl, ?_⟩) hHeld ?_ ?_
 rotate_left
 ·rintro w' ⟨s1, s2, s3⟩
  go_simp
  with_reducible rfl
 rotate_left
 ·simp only [Act.put, Za, Zb, Zc, i64_w, i32_w]
  rfl
 refine take_ (i := 3) (N := some 12) (v := ?_) (a' := ?_) (zb 10 31) rfl rfl (by kernel_rfl) (fun _ _ _ h => h) (Or.inl ⟨by rfl, ?_⟩) hHeld ?_ ?_
 rotate_left
 ·rintro w' ⟨s1, s2, s3⟩
  go_simp
  with_reducible rfl
 rotate_left
 ·simp only [Act.put, Za, Zb, Zc, i64_w, i32_w]
  rfl
 refine take_ (i := 5) (N := some 14) (v := ?_) (a' := ?_) (zb 10 63) rfl rfl (by kernel_rfl) (fun _ _ _ h => h) (Or.inl ⟨by rfl, ?_⟩) hHeld ?_ ?_
 rotate_left
 ·rintro w' ⟨s1, s2, s3⟩
  go_simp
  with_reducible rfl
 rotate_left
 ·simp only [Act.put, Za, Zb, Zc, i64_w, i32_w]
  rfl
 refine join_ (σ := Value × Nat) 1 #[true, true, true, true, true, true, true, true, true, false] (fun s => [(15, s.1), (16, .agg #[.int .i64 a0, .int .i64 a1, s.1, .slice none 0 0]), (3, .pointer (some ⟨s.2, 0, none⟩))])
  (fun s w' => Pr w a0 a1 AA accs.length ca AN rows.length cn w' ∧ Kd.R Kd.bool 4 w' w.heap.size (fun _ => True) s.1 accs ∧ w'.heap[s.2]? = some (.cells #[.int .i64 0, .int .i64 0, .slice none 0 0, .slice none 0 0] 77 (0, 0)) ∧ w.heap.size + 1 < s.2) ?_ ?_
 rotate_left
 ·intro hCont
  refine two_ (i := 6) (j := 8) (Ni := some 15) (Nj := some 3) #[true, true, true, true, true, true, true, false, false, false] #[true, true, true, true, true, true, false, false, true, false] rfl rfl rfl rfl (by kernel_rfl) (by decide) (by decide) (fun K hK => ?_) (fun K hK => ?_)
  ·skip
   refine goes_ Tryd.func91 (by kernel_rfl) rfl #[.slice AA accs.length ca] (by rfl) rfl rfl (by (try simp only [List.map_toArray, List.map_cons, List.map_nil]); first | done | rfl) ?_
   with_reducible refine (clone _ AA ca accs h0 hn (Kd.C_below hA hPd.bel)).mono ?_
   rintro e w6 ⟨vA, rfl, r1, hb6⟩
   refine ⟨_, rfl, ?_⟩
   have h6 := hPd.step hb6
   have q1 := Kd.R_lower r1 (Below.size hPd.bel)
   obtain ⟨A1, c1, rfl⟩ := Kd.R_slice q1
   refine hK.out _ _ (hSS _ h6) (fun hHeld => ?_)
   clear hK K
   refine norm_ (a' := ?_) ?_ ?_
   rotate_left
   ·show Act.put _ (some 15) _ = _
    simp only [Act.put, Za, Zb, Zc, i64_w, i32_w]
    rfl
   refine pure_ (i := 7) (N := some 16) (v := ?_) (a' := ?_) (zb 10 255) rfl rfl (by kernel_rfl) (fun _ _ _ h => h) (Or.inl ⟨by rfl, ?_⟩) ?_ ?_
   rotate_left
   ·intro w'
    go_simp
    with_reducible rfl
   rotate_left
   ·simp only [Act.put, Za, Zb, Zc, i64_w, i32_w]
    rfl
   refine one_ (i := 8) (N := some 3) (zb 10 511) rfl rfl (by kernel_rfl) (by decide) (fun K hK => ?_)
   refine value_ (w1 := w6.alloc (.cells #[.int .i64 0, .int .i64 0, .slice none 0 0, .slice none 0 0] 77)) (v := .pointer (some ⟨w6.heap.size, 0, none⟩)) (by rfl) rfl (by first | (go_simp; done) | (go_simp; rfl)) ?_
   have h7 := h6.step (below_alloc (Below.refl _ _) (.cells #[.int .i64 0, .int .i64 0, .slice none 0 0, .slice none 0 0] 77))
   refine hK.out _ _ (hSS _ h7) (fun hHeld => ?_)
   clear hK K
   refine norm_ (a' := ?_) ?_ ?_
   rotate_left
   ·show Act.put _ (some 3) _ = _
    simp only [Act.put, Za, Zb, Zc, i64_w, i32_w]
    rfl
   exact norm_ (by simp only [putAll, Act.put, List.setIfInBounds_toArray, List.set_cons_zero, List.set_cons_succ]) (hCont (.slice A1 accs.length c1, w6.heap.size) _ ⟨h7, Kd.R_below q1 (below_alloc (Below.refl _ _) _), blk_new _ _, h6.lt⟩)
  ·skip
   refine value_ (w1 := wd.drew.alloc (.cells #[.int .i64 0, .int .i64 0, .slice none 0 0, .slice none 0 0] 77)) (v := .pointer (some ⟨wd.drew.heap.size, 0, none⟩)) (by rfl) rfl (by first | (go_simp; done) | (go_simp; rfl)) ?_
   have h6 := hPd.step (below_alloc (Below.refl _ _) (.cells #[.int .i64 0, .int .i64 0, .slice none 0 0, .slice none 0 0] 77))
   refine hK.out _ _ (hSS _ h6) (fun hHeld => ?_)
   clear hK K
   refine norm_ (a' := ?_) ?_ ?_
   rotate_left
   ·show Act.put _ (some 3) _ = _
    simp only [Act.put, Za, Zb, Zc, i64_w, i32_w]
    rfl
   refine one_ (i := 6) (N := some 15) (zb 10 383) rfl rfl (by kernel_rfl) (by decide) (fun K hK => ?_)
   refine goes_ Tryd.func91 (by kernel_rfl) rfl #[.slice AA accs.length ca] (by rfl) rfl rfl (by (try simp only [List.map_toArray, List.map_cons, List.map_nil]); first | done | rfl) ?_
   with_reducible refine (clone _ AA ca accs h0 hn (Kd.C_below hA h6.bel)).mono ?_
   rintro e w7 ⟨vA, rfl, r1, hb6⟩
   refine ⟨_, rfl, ?_⟩
   have h7 := h6.step hb6
   have q1 := Kd.R_lower r1 (Below.size h6.bel)
   obtain ⟨A1, c1, rfl⟩ := Kd.R_slice q1
   refine hK.out _ _ (hSS _ h7) (fun hHeld => ?_)
   clear hK K
   refine norm_ (a' := ?_) ?_ ?_
   rotate_left
   ·show Act.put _ (some 15) _ = _
    simp only [Act.put, Za, Zb, Zc, i64_w, i32_w]
    rfl
   refine pure_ (i := 7) (N := some 16) (v := ?_) (a' := ?_) (zb 10 511) rfl rfl (by kernel_rfl) (fun _ _ _ h => h) (Or.inl ⟨by rfl, ?_⟩) ?_ ?_
   rotate_left
   ·intro w'
    go_simp
    with_reducible rfl
   rotate_left
   ·simp only [Act.put, Za, Zb, Zc, i64_w, i32_w]
    rfl
   exact norm_ (by simp only [putAll, Act.put, List.setIfInBounds_toArray, List.set_cons_zero, List.set_cons_succ]) (hCont (.slice A1 accs.length c1, wd.drew.heap.size) _ ⟨h7, q1, blk_below (blk_new _ _) hb6, hPd.lt⟩)
 rintro ⟨vA, gl⟩ w8 ⟨h8, r1, b0, hgl⟩
 dsimp only at r1 b0 hgl ⊢
 obtain ⟨A1, c1, rfl⟩ := Kd.R_slice r1
 refine norm_ (a' := ?_) ?_ ?_
 rotate_left
 ·simp only [putAll, Act.put, List.setIfInBounds_toArray, List.set_cons_zero, List.set_cons_succ, i64_w, i32_w]
  rfl
 have e0 : w8.cell? ⟨gl, 0, none⟩ = some (.int .i64 0) := (blk_cell b0 0).trans rfl
 have f0 : w8.frozen? ⟨gl, 0, none⟩ = false := blk_frozen b0 0
 have e1 : w8.cell? ⟨gl, 1, none⟩ = some (.int .i64 0) := (blk_cell b0 1).trans rfl
 have f1 : w8.frozen? ⟨gl, 1, none⟩ = false := blk_frozen b0 1
 have e2 : w8.cell? ⟨gl, 2, none⟩ = some (.slice none 0 0) := (blk_cell b0 2).trans rfl
 have f2 : w8.frozen? ⟨gl, 2, none⟩ = false := blk_frozen b0 2
 have e3 : w8.cell? ⟨gl, 3, none⟩ = some (.slice none 0 0) := (blk_cell b0 3).trans rfl
 have f3 : w8.frozen? ⟨gl, 3, none⟩ = false := blk_frozen b0 3
 refine last_ (i := 9) (N := none) (zb 10 1023) rfl rfl (by kernel_rfl) (by decide) (fun K hK => ?_)
 refine skip_ (w1 := (((w8.setCell ⟨gl, 0, none⟩ (.int .i64 a0)).setCell ⟨gl, 1, none⟩ (.int .i64 a1)).setCell ⟨gl, 2, none⟩ (.slice A1 accs.length c1)).setCell ⟨gl, 3, none⟩ (.slice none 0 0)) (by rfl) rfl (by first | (go_simp; done) | (go_simp; rfl)) ?_
 refine hK.out _ _ ?_
 clear hK K
 refine done_ (by kernel_rfl) ?_
 have hgg : w.heap.size ≤ gl := by omega
 have n0 : some w.heap.size ≠ some gl := fun e => by injection e; omega
 have n1 : some (w.heap.size + 1) ≠ some gl := fun e => by injection e; omega
 have b1 := blk_put b0 0 (.int .i64 a0) rfl
 have b2 := blk_put b1 1 (.int .i64 a1) rfl
 have b3 := blk_put b2 2 (.slice A1 accs.length c1) rfl
 have b4 := blk_put b3 3 (.slice none 0 0) rfl
 have q1 := Kd.R_set (Kd.R_set (Kd.R_set (Kd.R_set r1 b0 (by decide) 0 (.int .i64 a0)) b1 (by decide) 1 (.int .i64 a1)) b2 (by decide) 2 (.slice A1 accs.length c1)) b3 (by decide) 3 (.slice none 0 0)
 have hB := (((h8.bel.setCell (p := ⟨gl, 0, none⟩) hgg (.int .i64 a0)).setCell (p := ⟨gl, 1, none⟩) hgg (.int .i64 a1)).setCell (p := ⟨gl, 2, none⟩) hgg (.slice A1 accs.length c1)).setCell (p := ⟨gl, 3, none⟩) hgg (.slice none 0 0)
 have bP := (Keep.set _ ⟨gl, 3, none⟩ (.slice none 0 0)).obj ((Keep.set _ ⟨gl, 2, none⟩ (.slice A1 accs.length c1)).obj ((Keep.set _ ⟨gl, 1, none⟩ (.int .i64 a1)).obj ((Keep.set _ ⟨gl, 0, none⟩ (.int .i64 a0)).obj h8.bP n0) n0) n0) n0
 have bR := (Keep.set _ ⟨gl, 3, none⟩ (.slice none 0 0)).obj ((Keep.set _ ⟨gl, 2, none⟩ (.slice A1 accs.length c1)).obj ((Keep.set _ ⟨gl, 1, none⟩ (.int .i64 a1)).obj ((Keep.set _ ⟨gl, 0, none⟩ (.int .i64 a0)).obj h8.bR n1) n1) n1) n1
 clear b0 b1 b2 b3 r1 e0 e1 e2 e3 f0 f1 f2 f3 h8 hSS hPd n0 n1
 generalize ((((w8.setCell ⟨gl, 0, none⟩ (.int .i64 a0)).setCell ⟨gl, 1, none⟩ (.int .i64 a1)).setCell ⟨gl, 2, none⟩ (.slice A1 accs.length c1)).setCell ⟨gl, 3, none⟩ (.slice none 0 0)) = w9 at *
 have hM : Mk w a0 a1 AA accs.length ca AN rows.length cn gl (.slice A1 accs.length c1) accs (.slice none 0 0) [] none w9 := ⟨⟨bP, bR, hB⟩, b4, q1, Kd.R_nil _ _ _ _ _⟩
 have c3 : w9.cell? ⟨w.heap.size, 3, none⟩ = some (.slice AN rows.length cn) := (blk_cell bP 3).trans rfl
 clear bP bR hB b4 q1
 go_wp2
 clear c3
 go_loopg [20] rows.length (fun kq v20 wr => ∃ (i : Nat) (A2 : Option Addr) (c2 : Nat), v20 = .int .i64 (i : Int) ∧ Aside0 (kq = rows.length - i) ∧ i ≤ rows.length ∧ Aside0 (Mk w a0 a1 AA accs.length ca AN rows.length cn gl (.slice A1 accs.length c1) accs (.slice A2 i c2) (rows.take i) none wr))
 case atStart => exact ⟨0, none, 0, rfl, ⟨by simp⟩, Nat.zero_le _, ⟨hM⟩⟩
 case round =>
  clear hM
  obtain ⟨wo, rfl⟩ : ∃ wo : World, wo = wr := ⟨_, rfl⟩
  obtain ⟨i, A2, c2, rfl, hkq, hil, hM⟩ := hrel
  replace hM := hM.out
  by_cases hlt : i < rows.length
  ·obtain ⟨ad, rfl, A', c', k1, k2, k3⟩ := at_row (Kd.C_below hN hM.p.bel) i hlt
   have hrl : rows[i].length ≤ 1000000 := hn3 _ (List.getElem_mem hlt)
   have htk : rows.take (i + 1) = rows.take i ++ [rows[i]] := List.take_succ_eq_append_getElem hlt
   have htk2 := Aside0.mk htk
   clear htk
   generalize rows[i] = ri at *
   have hlt1 : ((i : Int) < (rows.length : Int)) = True := eq_true (by omega)
   have h0i : (0 ≤ (i : Int)) = True := eq_true (by omega)
   go_wp2_with fail
   go_loopg [6, 26] ri.length (fun kq v6 v26 wq => ∃ (j : Nat) (Ar : Option Addr) (cr : Nat), v6 = .slice Ar j cr ∧ v26 = .int .i64 (j : Int) ∧ Aside0 (kq = ri.length - j) ∧ j ≤ ri.length ∧ Aside0 (Below wo.heap.size wo wq) ∧ Aside0 (Kd.R (Kd.int .i64) 3 wq wo.heap.size (fun _ => True) (.slice Ar j cr) (ri.take j)) ∧ Aside0 (Mk w a0 a1 AA accs.length ca (some ad) rows.length cn gl (.slice A1 accs.length c1) accs (.slice A2 i c2) (rows.take i) (Value.slice Ar j cr).ownBlock wq))
   case atStart => exact ⟨0, none, 0, rfl, rfl, ⟨by simp⟩, Nat.zero_le _, ⟨Below.refl _ _⟩, ⟨Kd.R_nil _ _ _ _ _⟩, ⟨hM⟩⟩
   case round =>
    obtain ⟨j, Ar, cr, rfl, rfl, hkj, hjl, hbq, hr, hQ⟩ := hrel
    replace hr := hr.out
    replace hQ := hQ.out
    by_cases hjt : j < ri.length
    ·obtain ⟨a2, rfl, m1⟩ := at_num (Kd.C_below k3 hbq.out) j hjt
     have htj : ri.take (j + 1) = ri.take j ++ [ri[j]] := List.take_succ_eq_append_getElem hjt
     have htj2 := Aside0.mk htj
     have hjl2 : Aside0 ((ri.take j).length = j) := ⟨by rw [List.length_take]; omega⟩
     clear htj
     generalize ri[j] = y at *
     have hlt2 : ((j : Int) < (ri.length : Int)) = True := eq_true (by omega)
     have h0j : (0 ≤ (j : Int)) = True := eq_true (by omega)
     go_wp2_with ((with_reducible refine gate_builtin (b := .append) (xs := #[.tmp 30, .tmp 32]) rfl ?_); go_loud (at_builtin; refine R_append' (Kd.int .i64) (w0 := wo) wo.heap.size rfl (.tmp 30) (.tmp 32) 97 3 (.int .i64 0) 8 rfl Tryd.underlying97 GwI.info_int rfl (by decide) (by decide) (.slice Ar j cr) (ri.take j) y [.int .i64 y] (fun _ => True) (fun _ => False) _ (by simp) rfl rfl rfl (fun _ h => h.elim) (fun _ _ => trivial) hr hbq.out (Below.size hbq.out) (by have := hjl2.out; omega) ?_; intro v6 w6 hR6 hb6 hg6 hat6; obtain ⟨A6, c6, hv6⟩ := Kd.R_slice hR6; have ev : (ri.take j ++ [y]).length = j + 1 := (by rw [List.length_append, hjl2.out]; rfl); rw [ev] at hv6; subst hv6; have h6 := hQ.more hr hg6 hat6 (below_step hM.p.bel hb6)))
     go_roundg (ri.length - (j + 1))
     case measure => have := hkj.out; omega
     case rel => exact ⟨j + 1, A6, c6, rfl, (by go_num), ⟨by simp⟩, by omega, ⟨hb6⟩, ⟨by rw [htj2.out]; exact hR6⟩, ⟨h6⟩⟩
    ·have hjj : j = ri.length := by omega
     subst j
     have hlt2 : ((ri.length : Int) < (ri.length : Int)) = False := eq_false (by omega)
     rw [List.take_length] at hr
     have cV : wr.cell? ⟨gl, 3, none⟩ = some (.slice A2 i c2) := (blk_cell hQ.bV 3).trans rfl
     have hil2 : Aside0 ((rows.take i).length = i) := ⟨by rw [List.length_take]; omega⟩
     go_wp2_with ((with_reducible refine gate_builtin (b := .append) (xs := #[.tmp 36, .tmp 38]) rfl ?_); go_loud (at_builtin; refine R_append' (Kd.slice 3 (Kd.int .i64)) (w0 := w) w.heap.size rfl (.tmp 36) (.tmp 38) 75 97 (.slice none 0 0) 24 rfl Tryd.underlying75 GwI.info_ints rfl (by decide) (by decide) (.slice A2 i c2) (rows.take i) ri [.slice Ar ri.length cr] (fun _ => True) (fun k => True ∧ some k ≠ (Value.slice A2 i c2).ownBlock) _ (by simp) rfl rfl (Kd.M_row (R_typed (Kd.R_lower hr (Below.size hM.p.bel)) hQ.nxt (by decide))) (fun _ hk => hk) (fun _ _ => trivial) (Kd.R_mono hQ.nxt (fun _ _ => trivial)) hQ.p.bel (Below.size hQ.p.bel) (by have := hil2.out; omega) ?_; intro v8 w8 hR8 hb8 hg8 hat8; obtain ⟨A8, c8, hv8⟩ := Kd.R_slice hR8; have ev8 : (rows.take i ++ [ri]).length = i + 1 := (by rw [List.length_append, hil2.out]; rfl); rw [ev8] at hv8; subst hv8; obtain ⟨b8, h9⟩ := hQ.push hg8 hR8 hb8 hgl; have c83 : w8.cell? ⟨gl, 3, none⟩ = some (.slice A2 i c2) := (blk_cell b8 3).trans rfl; have f83 : w8.frozen? ⟨gl, 3, none⟩ = false := blk_frozen b8 3))
     go_roundg (rows.length - (i + 1))
     case measure => have := hkq.out; omega
     case rel => exact ⟨i + 1, A8, c8, (by go_num), ⟨by simp⟩, by omega, ⟨by rw [htk2.out]; exact h9⟩⟩
  ·have hii : i = rows.length := by omega
   subst i
   have hlt1 : ((rows.length : Int) < (rows.length : Int)) = False := eq_false (by omega)
   rw [List.take_length] at hM
   have bV := hM.bV
   have d0 : wo.cell? ⟨gl, 0, none⟩ = some (.int .i64 a0) := (blk_cell bV 0).trans rfl
   have d1 : wo.cell? ⟨gl, 1, none⟩ = some (.int .i64 a1) := (blk_cell bV 1).trans rfl
   have d2 : wo.cell? ⟨gl, 2, none⟩ = some (.slice A1 accs.length c1) := (blk_cell bV 2).trans rfl
   have d3 : wo.cell? ⟨gl, 3, none⟩ = some (.slice A2 rows.length c2) := (blk_cell bV 3).trans rfl
   have b := hM.p.bR
   have e0 : wo.cell? ⟨w.heap.size + 1, 0, none⟩ = some (.int .i64 0) := (blk_cell b 0).trans rfl
   have e1 : wo.cell? ⟨w.heap.size + 1, 1, none⟩ = some (.int .i64 0) := (blk_cell b 1).trans rfl
   have e2 : wo.cell? ⟨w.heap.size + 1, 2, none⟩ = some (.slice none 0 0) := (blk_cell b 2).trans rfl
   have e3 : wo.cell? ⟨w.heap.size + 1, 3, none⟩ = some (.slice none 0 0) := (blk_cell b 3).trans rfl
   have f0 : wo.frozen? ⟨w.heap.size + 1, 0, none⟩ = false := blk_frozen b 0
   have f1 : wo.frozen? ⟨w.heap.size + 1, 1, none⟩ = false := blk_frozen b 1
   have f2 : wo.frozen? ⟨w.heap.size + 1, 2, none⟩ = false := blk_frozen b 2
   have f3 : wo.frozen? ⟨w.heap.size + 1, 3, none⟩ = false := blk_frozen b 3
   go_wp2_with fail
   have b1 := blk_put b 0 (.int .i64 a0) rfl
   have b2 := blk_put b1 1 (.int .i64 a1) rfl
   have b3 := blk_put b2 2 (.slice A1 accs.length c1) rfl
   have b5 := blk_put b3 3 (.slice A2 rows.length c2) rfl
   refine bodyPost_ret (results_cell_row rfl _ _ (w.heap.size + 1) 77 #[.int .i64 a0, .int .i64 a1, .slice A1 accs.length c1, .slice A2 rows.length c2] (0, 0) _ rfl b5 Tryd.underlying77 rfl (by kernel_rfl)) rfl ⟨_, _, rfl, ?_, ?_, ?_⟩
   ·exact Kd.R_set (Kd.R_set (Kd.R_set (Kd.R_set hM.acc b (by decide) 0 _) b1 (by decide) 1 _) b2 (by decide) 2 _) b3 (by decide) 3 _
   ·exact Kd.R_mono (Kd.R_set (Kd.R_set (Kd.R_set (Kd.R_set hM.nxt b (by decide) 0 _) b1 (by decide) 1 _) b2 (by decide) 2 _) b3 (by decide) 3 _) (fun _ _ => trivial)
   ·exact (((hM.p.bel.setCell (by simp) _).setCell (by simp) _).setCell (by simp) _).setCell (by simp) _
end Go.Proofs.YtbamnonamdpooaaDoor.Mo
namespace Go.Proofs.YtbamnonamdpooaaDoor.Wi
set_option linter.unusedVariables false
set_option linter.unusedSimpArgs false
open Go Go.RowKit Go.Proofs.YtbamnonamdpooaaDoorW.PrintWords Go.Proofs.YtbamnonamdpooaaDoorW.PrintLast Go.Proofs.YtbamnonamdpooaaDoorW.PrintMore Kp Mg
def colN : List Nat → Nat
 | [] => 0
 | d :: l => d + 3 * colN l
def insN (l : List Nat) (i d : Nat) : List Nat := l.take i ++ d :: l.drop i
theorem insN_len {l : List Nat} {i d : Nat} (h : i ≤ l.length) : (insN l i d).length = l.length + 1 := by
 unfold insN
 rw [List.length_append, List.length_take, List.length_cons, List.length_drop]
 omega
theorem colN_lt : ∀ l : List Nat, (∀ d ∈ l, d < 3) → colN l < 3 ^ l.length
 | [], _ => by simp [colN]
 | d :: l, h => by
  have h1 := h d (by simp)
  have h2 := colN_lt l (fun x hx => h x (by simp [hx]))
  rw [colN, List.length_cons, Nat.pow_succ]
  omega
theorem range_app {w : World} {b o : Nat} {xs ys : List Value} (h1 : w.rangeAt b o xs) (h2 : w.rangeAt b (o + xs.length) ys) : w.rangeAt b o (xs ++ ys) := fun j v hj => by
 rcases Nat.lt_or_ge j xs.length with hl | hl
 ·rw [List.getElem?_append_left hl] at hj
  exact h1 j v hj
 ·rw [List.getElem?_append_right hl] at hj
  have := h2 (j - xs.length) v hj
  rwa [show o + xs.length + (j - xs.length) = o + j by omega] at this
theorem C_range {w : World} {b o : Nat} {xs : List Int} (h : w.rangeAt b o (xs.map (Value.int .i64))) (hl : xs.length ≤ 9223372036854775807) : Kd.C (Kd.int .i64) w (some ⟨b, o, none⟩) xs.length xs := by
 refine ⟨rfl, hl, fun _ => ⟨⟨b, o, none⟩, rfl, fun j p hj => ⟨[.int .i64 p], rfl, rfl, fun i u hu => ?_⟩⟩⟩
 obtain rfl : i = 0 := by
  have := (List.getElem?_eq_some_iff.1 hu).1
  simpa using this
 have e : Value.int .i64 p = u := by simpa using hu
 subst e
 have := h j (.int .i64 p) (by rw [List.getElem?_map, hj]; rfl)
 rw [Addr.add_mid]
 have es : (Kd.int .i64).sz = 1 := rfl
 rwa [es, show o + (j * 1 + 0) = o + j by omega]
theorem below_cells {B g : Nat} (hg : B ≤ g) : ∀ (vs : List Value) (o : Nat) (a w : World), Below B a w → Below B a (w.setCells g o vs)
 | [], _, _, _, h => h
 | v :: r, o, a, w, h => below_cells hg r (o + 1) a _ (h.setCell hg v)
theorem range_drew {w : World} {b o : Nat} {xs : List Value} (h : w.rangeAt b o xs) : w.drew.rangeAt b o xs := h
theorem ints_app (a b : List Nat) : ints (a ++ b) = ints a ++ ints b := by simp [ints, GwI.ints]
theorem ints_ins (l : List Nat) (i d : Nat) : (ints (insN l i d)).map (Value.int .i64) = ((ints l).map (Value.int .i64)).take i ++ [.int .i64 (d : Int)] ++ ((ints l).map (Value.int .i64)).drop i := by
 unfold insN
 rw [show l.take i ++ d :: l.drop i = l.take i ++ [d] ++ l.drop i by simp, ints_app, ints_app, List.map_append, List.map_append]
 simp [ints, GwI.ints, List.map_take, List.map_drop]
theorem insert (ds : List Nat) (i d : Nat) (hi : i ≤ ds.length) (h0 : 0 < ds.length) (hn : ds.length ≤ 1000) (w : World) (B g c vb : Nat) (hg : B ≤ g) (cur : Array Value) (hb : w.heap[g]? = some (.cells cur 3 (0, 0))) (hcap : ds.length ≤ c) (hcm : c ≤ maxLen) (hsz : cur.size = c)
  (htk : cur.toList.take ds.length = (ints ds).map (Value.int .i64)) (hv : w.heap[vb]? = some (.cells #[.int .i64 (d : Int)] 3 (0, 0))) (hne : vb ≠ g) (hBw : B ≤ w.heap.size) :
  Calls Tryd.prog 188 #[.slice (some ⟨g, 0, none⟩) ds.length c, .int .i64 (i : Int), .slice (some ⟨vb, 0, none⟩) 1 1] w fun e w' => ∃ A c', e = .returned (.slice A (ds.length + 1) c') ∧ Kd.C (Kd.int .i64) w' A (ds.length + 1) (ints (insN ds i d)) ∧ Below B w w' := by
 obtain ⟨cs, hcs0⟩ : ∃ cs, (ints ds).map (Value.int .i64) = cs := ⟨_, rfl⟩
 have hcl : cs.length = ds.length := by rw [← hcs0, List.length_map, ints_length]
 have hc : ∀ j v, cs[j]? = some v → w.cell? ⟨g, 0 + j, none⟩ = some v := fun j v hj => by
  rw [← hcs0, ← htk] at hj
  rw [Nat.zero_add, blk_cell hb j]
  have hl : j < ds.length := by
   have := (List.getElem?_eq_some_iff.1 hj).1
   rw [List.length_take] at this
   omega
  rw [List.getElem?_take_of_lt hl] at hj
  rw [← hj]
  simp
 have hvs : ∀ j v, [Value.int .i64 (d : Int)][j]? = some v → w.cell? ⟨vb, 0 + j, none⟩ = some v := fun j v hj => by
  rw [Nat.zero_add, blk_cell hv j]
  simpa using hj
 have h1c : ∀ v ∈ cs, v.oneCell' = true := fun v hv => by
  rw [← hcs0] at hv
  obtain ⟨x, _, rfl⟩ := List.mem_map.1 hv
  rfl
 have h1v : ∀ v ∈ [Value.int .i64 (d : Int)], v.oneCell' = true := fun v hv => by
  rw [List.mem_singleton.1 hv]
  rfl
 have hsp : ∀ j, j < c → (w.cell? ⟨g, 0 + j, none⟩).isSome = true := fun j hj => by
  rw [Nat.zero_add, blk_cell hb j]
  simp
  omega
 have hfz : ∀ j, w.frozen? ⟨g, 0 + j, none⟩ = false := fun j => blk_frozen hb _
 have hil := insN_len (d := d) hi
 have hle : (ints (insN ds i d)).length = ds.length + 1 := by rw [ints_length, hil]
 have fin : ∀ (w' : World) (b' : Nat), w'.rangeAt b' 0 (cs.take i ++ [.int .i64 (d : Int)] ++ cs.drop i) → Kd.C (Kd.int .i64) w' (some ⟨b', 0, none⟩) (ds.length + 1) (ints (insN ds i d)) := fun w' b' hr => by
  have := C_range (w := w') (b := b') (o := 0) (xs := ints (insN ds i d)) (by rw [ints_ins, hcs0]; exact hr) (by omega)
  rwa [hle] at this
 have hroom0 : w.rangeAt g 0 cs := hc
 have hti : (cs.take i).length = i := by rw [List.length_take]; omega
 have hfirst : w.rangeAt g 0 (cs.take i) := fun j v hj => by
  have hl := (List.getElem?_eq_some_iff.1 hj).1
  rw [hti] at hl
  rw [List.getElem?_take_of_lt hl] at hj
  exact hc j v hj
 by_cases hroom : ds.length + 1 ≤ c
 ·by_cases hin : i < ds.length
  ·have hth : w.there g 0 (ds.length + 1) := fun j hj => ⟨hsp j (by omega), hfz j⟩
   refine (Any2.slices_Insert_int_shift Tryd.laysNm221 g 0 ds.length c i vb 0 1 1 cs [.int .i64 (d : Int)] w hin (by decide) hroom (by unfold maxLen at hcm; omega) hne hcl rfl hc (fun j hj => hsp j (by omega)) (fun j _ => hfz j) hvs h1c h1v
    3 3 1 c (by simp [World.shape?, hv]) (by simp [World.shape?, hb, hsz]) (by omega) (blk_frozen hv 0) (blk_frozen hv 1)).mono ?_
   rintro e w' ⟨rfl, rfl⟩
   refine ⟨_, _, rfl, fin _ g ?_, below_cells hg _ _ _ _ (below_cells hg _ _ _ _ (below_drew (Below.refl _ _)))⟩
   have hdl : (cs.drop i).length = ds.length - i := by rw [List.length_drop, hcl]
   have t1 : w.drew.there g (0 + (i + 1)) (cs.drop i).length := fun j hj => by
    have := hth ((i + 1) + j) (by omega)
    rwa [show 0 + (i + 1 + j) = 0 + (i + 1) + j by omega] at this
   have r2 := World.rangeAt_setCells_same w.drew g (0 + (i + 1)) (cs.drop i) t1
   have t2 : (w.drew.setCells g (0 + (i + 1)) (cs.drop i)).there g (0 + i) 1 := World.there_setCells (fun j hj => by
    have := hth (i + j) (by omega)
    rwa [show 0 + (i + j) = 0 + i + j by omega] at this) _ _ _
   have r1 := World.rangeAt_setCells_same _ g (0 + i) [.int .i64 (d : Int)] t2
   have r2' := World.rangeAt_setCells_apart r2 g (0 + i) [.int .i64 (d : Int)] (.inr (.inr (by simp)))
   have r0 := World.rangeAt_setCells_apart (World.rangeAt_setCells_apart (range_drew hfirst) g (0 + (i + 1)) (cs.drop i) (.inr (.inl (by omega)))) g (0 + i) [.int .i64 (d : Int)] (.inr (.inl (by omega)))
   refine range_app (range_app r0 ?_) ?_
   ·rw [hti]; exact r1
   ·rw [List.length_append, hti]; exact r2'
  ·have he : i = ds.length := by omega
   subst he
   refine (Any2.slices_Insert_int_end_room Tryd.laysNm221 g 0 ds.length c vb 0 1 1 [.int .i64 (d : Int)] w (by decide) hroom (by unfold maxLen at hcm; omega) rfl (fun j hj => by rw [show 0 + ds.length + j = 0 + (ds.length + j) by omega]; exact hsp _ (by omega)) (fun j hj => by rw [show 0 + ds.length + j = 0 + (ds.length + j) by omega]; exact hfz _) hvs h1v).mono ?_
   rintro e w' ⟨rfl, rfl⟩
   refine ⟨_, _, rfl, fin _ g ?_, below_cells hg _ _ _ _ (Below.refl _ _)⟩
   have t1 : w.there g (0 + ds.length) 1 := fun j hj => by
    rw [show 0 + ds.length + j = 0 + (ds.length + j) by omega]
    exact ⟨hsp _ (by omega), hfz _⟩
   have r1 := World.rangeAt_setCells_same w g (0 + ds.length) [.int .i64 (d : Int)] t1
   have r0 := World.rangeAt_setCells_apart hfirst g (0 + ds.length) [.int .i64 (d : Int)] (.inr (.inl (by omega)))
   rw [List.drop_of_length_le (by omega), List.append_nil]
   exact range_app r0 (by rw [hti]; exact r1)
 ·by_cases hin : i < ds.length
  ·refine (Any2.slices_Insert_int_grow Tryd.laysNm221 g 0 ds.length c i vb 0 1 1 cs [.int .i64 (d : Int)] w hin (by decide) hcap (by omega) (by omega) hcl rfl hc hvs h1c h1v).mono ?_
   rintro e w' ⟨rfl, rfl⟩
   obtain ⟨z, hz⟩ : ∃ z, Builtin.zeroCells (Value.int .i64 0).cells (grownCap w (ds.length + 1) c (Tryd.laysNm221_ren.t 3) - (ds.length + 1)) = z := ⟨_, rfl⟩
   refine ⟨_, _, rfl, fin _ w.heap.size ?_, below_cells hBw _ _ _ _ (below_drew (below_cells hBw _ _ _ _ (below_drew ((below_alloc (Below.refl _ _) _).mono hBw))))⟩
   rw [hz]
   have hzl : (Builtin.zeroCells (Value.int .i64 0).cells (ds.length + 1 - i)).size = ds.length + 1 - i := by
    simp [Builtin.zeroCells]
    rw [show (Value.int .i64 0).cells.size = 1 from rfl, Nat.mul_one]
   have hblk := blk_new w (.cells ((cs.take i).toArray ++ Builtin.zeroCells (Value.int .i64 0).cells (ds.length + 1 - i) ++ z) (Tryd.laysNm221_ren.t 3))
   have f0 : (w.alloc (.cells ((cs.take i).toArray ++ Builtin.zeroCells (Value.int .i64 0).cells (ds.length + 1 - i) ++ z) (Tryd.laysNm221_ren.t 3))).rangeAt w.heap.size 0 (cs.take i) := fun j v hj => by
    rw [Nat.zero_add, blk_cell hblk j]
    have hl := (List.getElem?_eq_some_iff.1 hj).1
    rw [Array.getElem?_append_left (by simp; omega), Array.getElem?_append_left (by simpa using hl)]
    simpa using hj
   have th : (w.alloc (.cells ((cs.take i).toArray ++ Builtin.zeroCells (Value.int .i64 0).cells (ds.length + 1 - i) ++ z) (Tryd.laysNm221_ren.t 3))).there w.heap.size 0 (ds.length + 1) := fun j hj => by
    rw [Nat.zero_add, blk_cell hblk j]
    refine ⟨?_, blk_frozen hblk j⟩
    rw [Option.isSome_iff_exists]
    exact ⟨_, Array.getElem?_eq_getElem (by rw [Array.size_append, Array.size_append, hzl]; simp; omega)⟩
   have hdl : (cs.drop i).length = ds.length - i := by rw [List.length_drop, hcl]
   generalize w.alloc (.cells ((cs.take i).toArray ++ Builtin.zeroCells (Value.int .i64 0).cells (ds.length + 1 - i) ++ z) (Tryd.laysNm221_ren.t 3)) = wz at *
   have th' : wz.drew.there w.heap.size 0 (ds.length + 1) := th
   have t1 : (wz.drew.setCells w.heap.size i [.int .i64 (d : Int)]).drew.there w.heap.size 0 (ds.length + 1) := World.there_setCells th' w.heap.size i [.int .i64 (d : Int)]
   have r1 := range_drew (World.rangeAt_setCells_same wz.drew w.heap.size i [.int .i64 (d : Int)] (fun j hj => by have := th' (i + j) (by simp at hj; omega); rwa [Nat.zero_add] at this))
   have r0 := range_drew (World.rangeAt_setCells_apart (range_drew f0) w.heap.size i [.int .i64 (d : Int)] (.inr (.inl (by omega))))
   have r2 := World.rangeAt_setCells_same (wz.drew.setCells w.heap.size i [.int .i64 (d : Int)]).drew w.heap.size (i + 1) (cs.drop i) (fun j hj => by have := t1 (i + 1 + j) (by omega); rwa [Nat.zero_add] at this)
   have r0' := World.rangeAt_setCells_apart r0 w.heap.size (i + 1) (cs.drop i) (.inr (.inl (by omega)))
   have r1' := World.rangeAt_setCells_apart r1 w.heap.size (i + 1) (cs.drop i) (.inr (.inl (by simp)))
   refine range_app (range_app r0' ?_) ?_
   ·rw [hti, Nat.zero_add]; exact r1'
   ·rw [List.length_append, hti, Nat.zero_add]; exact r2
  ·have he : i = ds.length := by omega
   subst he
   refine (Any2.slices_Insert_int_end_grow Tryd.laysNm221 (some ⟨g, 0, none⟩) ds.length c vb 0 1 1 cs [.int .i64 (d : Int)] w (by decide) hcap (by omega) (by omega) hcl rfl (by simp) (fun a ha j v hj => by cases ha; rw [Addr.add_mid]; exact hc j v hj) hvs h1v).mono ?_
   rintro e w' ⟨rfl, rfl⟩
   refine ⟨_, _, rfl, fin _ w.heap.size ?_, (below_alloc (below_drew (Below.refl _ _)) _).mono hBw⟩
   have hblk := blk_at w.drew (.cells ((cs ++ [Value.int .i64 (d : Int)]).toArray ++ Builtin.zeroCells (Value.int .i64 0).cells (grownCap w (ds.length + 1) c (Tryd.laysNm221_ren.t 3) - (ds.length + 1))) (Tryd.laysNm221_ren.t 3)) w.heap.size rfl
   rw [List.drop_of_length_le (by omega), List.append_nil, List.take_of_length_le (by omega)]
   intro j v hj
   rw [Nat.zero_add, blk_cell hblk j]
   have hl := (List.getElem?_eq_some_iff.1 hj).1
   rw [Array.getElem?_append_left (by simpa using hl)]
   simpa using hj
set_option maxHeartbeats 2000000 in
theorem columnOf (A : Option Addr) (c : Nat) (ds : List Nat) (w : World) (hC : Kd.C (Kd.int .i64) w A ds.length (ints ds)) (hd : ∀ d ∈ ds, d < 3) (hl : ds.length ≤ 10) :
  Calls Tryd.prog 116 #[.slice A ds.length c] w fun e w' => e = .returned (.int .i64 (colN ds : Int)) ∧ Below w.heap.size w w' := by
 have hwl : wrap64 ((ds.length : Int) - 1) = (ds.length : Int) - 1 := by unfold wrap64; omega
 go_enter Tryd.func116, Tryd.ntmps116
 go_wp2_with fail
 go_loopg [3, 4] ds.length (fun kq v3 v4 W => v3 = .int .i64 (colN (ds.drop kq) : Int) ∧ v4 = .int .i64 ((kq : Int) - 1) ∧ kq ≤ ds.length ∧ Aside0 (Below w.heap.size w W))
 case atStart => exact ⟨by rw [List.drop_length]; rfl, (by first | rfl | (rw [← hwl]; rfl)), Nat.le_refl _, ⟨Below.refl _ _⟩⟩
 case round =>
  obtain ⟨rfl, rfl, hkl, hB⟩ := hrel
  cases gk with
  | zero =>
   have h1 : (0 ≤ ((0 : Nat) : Int) - 1) = False := eq_false (by omega)
   have h2 : ((0 : Int) ≤ ((0 : Int)) - 1) = False := eq_false (by omega)
   have h3 : ((0 : Int) ≤ -1) = False := eq_false (by omega)
   go_wp2_with fail
   go_ret
   exact ⟨rfl, hB.out⟩
  | succ k =>
   have hk : k < ds.length := by omega
   have ek : ((k + 1 : Nat) : Int) - 1 = (k : Int) := by omega
   rw [ek]
   have h0k : (0 ≤ (k : Int)) = True := eq_true (by omega)
   have hkl1 : ((k : Int) < (ds.length : Int)) = True := eq_true (by omega)
   obtain ⟨ad, rfl, k1⟩ := at_num (Kd.C_below hC hB.out) k (by rw [ints_length]; exact hk)
   rw [ints_get _ _ _ hk] at k1
   have hb := colN_lt (ds.drop (k + 1)) (fun x hx => hd x (List.mem_of_mem_drop hx))
   have hb2 : 3 ^ (ds.drop (k + 1)).length ≤ 3 ^ 10 := Nat.pow_le_pow_right (by decide) (by rw [List.length_drop]; omega)
   have hdk := hd _ (List.getElem_mem hk)
   have hst : colN (ds.drop k) = ds[k] + 3 * colN (ds.drop (k + 1)) := by rw [List.drop_eq_getElem_cons hk, colN]
   obtain ⟨d, hdd⟩ : ∃ d, ds[k] = d := ⟨_, rfl⟩
   obtain ⟨m, hm⟩ : ∃ m, colN (ds.drop (k + 1)) = m := ⟨_, rfl⟩
   rw [hdd, hm] at hst
   rw [hdd] at k1 hdk
   rw [hm] at hb ⊢
   have e10 : (3 : Nat) ^ 10 = 59049 := by decide
   have hm2 : m < 59049 := by omega
   have w1 : wrap64 (3 * (m : Int)) = 3 * (m : Int) := by unfold wrap64; omega
   have w2 : wrap64 (3 * (m : Int) + (d : Int)) = 3 * (m : Int) + (d : Int) := by unfold wrap64; omega
   have w3 : wrap64 ((k : Int) - 1) = (k : Int) - 1 := by unfold wrap64; omega
   have hstq := Aside0.mk hst
   clear hst hb hb2 e10 hdd hm
   go_wp2_with fail
   go_roundg k
   case measure => omega
   case rel => exact ⟨by have := hstq.out; congr 1; omega, rfl, by omega, hB⟩
set_option maxHeartbeats 2000000 in
theorem padded (t : Nat) (ht : t ≤ 10) (w : World) :
  Calls Tryd.prog 177 #[.int .i64 (t : Int)] w fun e w' => ∃ v, e = .returned v ∧ Kd.R (Kd.int .i64) 3 w' w.heap.size (fun _ => True) v (ints (List.replicate t 2)) ∧ Below w.heap.size w w' := by
 go_enter Tryd.func177, Tryd.ntmps177
 go_wp2_with fail
 go_loopg [0, 3] t (fun kq v0 v3 W => ∃ (i : Nat) (Ar : Option Addr) (cr : Nat), v3 = .slice Ar i cr ∧ v0 = .int .i64 (kq : Int) ∧ i + kq = t ∧ Aside0 (Kd.R (Kd.int .i64) 3 W w.heap.size (fun _ => True) (.slice Ar i cr) (ints (List.replicate i 2))) ∧ Aside0 (Below w.heap.size w W))
 case atStart => exact ⟨0, none, 0, rfl, rfl, by omega, ⟨Kd.R_nil _ _ _ _ _⟩, ⟨Below.refl _ _⟩⟩
 case round =>
  obtain ⟨i, Ar, cr, rfl, rfl, hit, hR, hB⟩ := hrel
  cases gk with
  | zero =>
   have he : i = t := by omega
   subst he
   have h1 : (0 < ((0 : Nat) : Int)) = False := eq_false (by omega)
   go_wp2_with fail
   go_ret
   exact ⟨_, rfl, hR.out, hB.out⟩
  | succ k =>
   have h1 : (0 < ((k + 1 : Nat) : Int)) = True := eq_true (by omega)
   have h2 : (0 < (k : Int) + 1) = True := eq_true (by omega)
   have w3 : wrap64 (((k + 1 : Nat) : Int) - 1) = (k : Int) := by unfold wrap64; omega
   have w4 : wrap64 ((k : Int) + 1 - 1) = (k : Int) := by unfold wrap64; omega
   have el : (ints (List.replicate i 2)).length = i := by rw [ints_length, List.length_replicate]
   have es : ints (List.replicate i 2) ++ [(2 : Int)] = ints (List.replicate (i + 1) 2) := by rw [List.replicate_succ', show [(2 : Int)] = ints [2] from rfl, ← ints_app]
   have elq := Aside0.mk el
   have esq := Aside0.mk es
   clear el es
   go_wp2_with ((with_reducible refine gate_builtin (b := .append) (xs := #[.tmp 8, .tmp 9]) rfl ?_); go_loud (at_builtin; refine R_append' (Kd.int .i64) (w0 := w) w.heap.size rfl (.tmp 8) (.tmp 9) 97 3 (.int .i64 0) 8 rfl Tryd.underlying97 GwI.info_int rfl (by decide) (by decide) (.slice Ar i cr) (ints (List.replicate i 2)) 2 [.int .i64 2] (fun _ => True) (fun _ => False) _ (by simp) rfl rfl rfl (fun _ h => h.elim) (fun _ _ => trivial) hR.out hB.out (Below.size hB.out) (by have := elq.out; omega) ?_; intro v6 w6 hR6 hb6 hg6 hat6; rw [esq.out] at hR6; obtain ⟨A6, c6, hv6⟩ := Kd.R_slice hR6; rw [ints_length, List.length_replicate] at hv6; subst hv6))
   go_roundg k
   case measure => omega
   case rel => exact ⟨i + 1, A6, c6, rfl, (by first | rfl | (rw [← w3]; rfl)), by omega, ⟨hR6⟩, ⟨hb6⟩⟩
/-- The program's copy of numbers. -/
theorem cloneN (W : World) (A : Option Addr) (c : Nat) (xs : List Int) (h0 : 0 < xs.length) (hn : xs.length ≤ 1000000) (hC : Kd.C (Kd.int .i64) W A xs.length xs) :
  Calls Tryd.prog 189 #[.slice A xs.length c] W fun e W' => ∃ v, e = .returned v ∧ Kd.R (Kd.int .i64) 3 W' W.heap.size (fun _ => True) v xs ∧ Below W.heap.size W W' := by
 obtain ⟨⟨b, off, sp⟩, rfl, k0⟩ := at_num hC 0 h0
 have hsp : sp = none := by
  unfold World.cell? Addr.add at k0
  rw [if_pos rfl] at k0
  split at k0
  ·cases sp with
   | none => rfl
   | some s => simp at k0
  ·cases k0
 subst hsp
 have hc : ∀ j u, (xs.map (Value.int .i64))[j]? = some u → W.cell? ⟨b, off + j, none⟩ = some u := by
  intro j u hj
  obtain ⟨y, hy, rfl⟩ := List.getElem?_map .. ▸ hj |> Option.map_eq_some_iff.1
  obtain ⟨hlt, rfl⟩ := List.getElem?_eq_some_iff.1 hy
  obtain ⟨ad, e, k⟩ := at_num hC j hlt
  cases e
  rw [Addr.add_mid] at k
  exact k
 obtain ⟨i0, h1, h2⟩ := Option.map_eq_some_iff.1 GwI.info_int
 simp only [Prod.mk.injEq] at h2
 have h := Tryd.slices_Clone_f189 i0 (.int .i64 0) 1 8 h1 h2.1 h2.2.1 h2.2.2 rfl (by decide) Tryd.sizeOf3 b off xs.length c (xs.map (Value.int .i64)) W (by simp) (by unfold maxLen; omega) (by omega) hc (by intro u hu; obtain ⟨y, _, rfl⟩ := List.mem_map.1 hu; rfl)
 refine Calls.mono h ?_
 rintro e W' ⟨v, rfl, ho, hne, hb⟩
 exact ⟨v, rfl, Kd.R_of_own ho (fun _ _ => trivial), hb⟩
set_option maxHeartbeats 4000000 in
theorem with_ (ds : List Nat) (i d : Nat) (hi : i ≤ ds.length) (h0 : 0 < ds.length) (hn : ds.length ≤ 9) (hd : ∀ x ∈ ds, x < 3) (hd3 : d < 3) (A : Option Addr) (c : Nat) (w : World) (hC : Kd.C (Kd.int .i64) w A ds.length (ints ds)) :
  Calls Tryd.prog 176 #[.slice A ds.length c, .int .i64 (i : Int), .int .i64 (d : Int)] w fun e w' => e = .returned (.int .i64 (colN (insN ds i d) : Int)) ∧ Below w.heap.size w w' := by
 have hil := insN_len (d := d) hi
 have hins : ∀ x ∈ insN ds i d, x < 3 := fun x hx => by
  unfold insN at hx
  rcases List.mem_append.1 hx with h | h
  ·exact hd x (List.mem_of_mem_take h)
  ·rcases List.mem_cons.1 h with rfl | h
   ·exact hd3
   ·exact hd x (List.mem_of_mem_drop h)
 obtain ⟨M, hM⟩ : ∃ M, insN ds i d = M := ⟨_, rfl⟩
 have hMq := Aside0.mk hM
 have hlq := Aside0.mk hil
 rw [hM] at hins ⊢
 clear hM hil
 go_enter Tryd.func176, Tryd.ntmps176
 go_wp2_with (first
  | (go_at_call 189; go_loud (
    have q := cloneN w A c (ints ds) (by rw [ints_length]; exact h0) (by rw [ints_length]; omega) (by rw [ints_length]; exact hC)
    rw [ints_length] at q
    with_reducible refine q.mono ?_
    rintro e w1 ⟨v1, rfl, hR1, hb1⟩
    obtain ⟨g, cap, cur, hv, hgb, hg, hcap, hmax, hsz, htk⟩ : ∃ g cap cur, v1 = .slice (some ⟨g, 0, none⟩) ds.length cap ∧ w.heap.size ≤ g ∧ w1.heap[g]? = some (.cells cur 3 (0, 0)) ∧ ds.length ≤ cap ∧ cap ≤ maxLen ∧ cur.size = cap ∧ cur.toList.take ds.length = (ints ds).map (Value.int .i64) := (by
     have ho := Kd.own_of_R hR1
     rw [ints_length] at ho
     rcases ho.2 with ⟨_, h⟩ | ⟨g, cap, cur, h1, h2, h3, h4, h5, h6, h7⟩
     ·omega
     ·exact ⟨g, cap, cur, h1, h2, h3, h4, h5, by simpa using h6, by simpa [encs] using h7⟩)
    subst hv
    clear hR1))
  | (go_at_call 188; go_loud (
    have hgl := blk_lt hg
    have q := insert ds i d hi h0 (by omega) _ w.heap.size g cap w1.heap.size hgb cur (blk_alloc hg (.cells #[.int .i64 (d : Int)] 3)) hcap hmax hsz htk (blk_new w1 (.cells #[.int .i64 (d : Int)] 3)) (by omega) (by have := Below.size hb1; simp; omega)
    with_reducible refine q.mono ?_
    rintro e w2 ⟨A2, c2, rfl, hC2, hb2⟩
    rw [hMq.out] at hC2
    have hB2 := (below_alloc hb1 (.cells #[.int .i64 (d : Int)] 3)).trans hb2))
  | (go_at_call 116; go_loud (
    have q := columnOf A2 c2 M w2 (by have := hlq.out; rw [hMq.out] at this; rw [this]; exact hC2) hins (by have := hlq.out; rw [hMq.out] at this; omega)
    rw [← hMq.out, hlq.out, hMq.out] at q
    with_reducible refine q.mono ?_
    rintro e w3 ⟨rfl, hb3⟩
    have hB3 := below_step hB2 hb3)))
 go_ret
 exact ⟨rfl, hB3⟩
end Go.Proofs.YtbamnonamdpooaaDoor.Wi
namespace Go.Proofs.YtbamnonamdpooaaDoor.Rg
set_option linter.unusedVariables false
set_option linter.unusedSimpArgs false
open Go.RowKit Go.Proofs.YtbamnonamdpooaaDoorW.PrintWords Go.Proofs.YtbamnonamdpooaaDoorW.PrintLast Go.Proofs.YtbamnonamdpooaaDoorW.PrintMore Mp Kp Mg
/-! ### plain -/
/-- The table of what has been met: x's place in the list, or -1. -/
structure Tab (N : Nat) (li : List Nat) (tab : List Int) : Prop where
 len : tab.length = N
 at_ : ∀ x, x < N → (tab[x]? = some (-1) ∧ x ∉ li) ∨ ∃ j : Nat, tab[x]? = some (j : Int) ∧ li[j]? = some x
 lt : ∀ x ∈ li, x < N
 nodup : li.Nodup
theorem get_app {α : Type} {l : List α} {j : Nat} {x : α} (m : List α) (h : l[j]? = some x) : (l ++ m)[j]? = some x := by
 obtain ⟨hj, _⟩ := List.getElem?_eq_some_iff.1 h
 rw [List.getElem?_append_left hj]
 exact h
theorem Tab.push {N : Nat} {li : List Nat} {tab : List Int} (h : Tab N li tab) {x : Nat} (hx : x < N) (hn : x ∉ li) : Tab N (li ++ [x]) (tab.set x (li.length : Int)) := by
 refine ⟨by rw [List.length_set]; exact h.len, fun y hy => ?_, fun y hy => ?_, ?_⟩
 ·by_cases e : y = x
  ·subst e
   refine .inr ⟨li.length, ?_, by simp⟩
   rw [List.getElem?_set_self (by rw [h.len]; exact hy)]
  ·rw [List.getElem?_set_ne (fun e' => e e'.symm)]
   rcases h.at_ y hy with ⟨h1, h2⟩ | ⟨j, h1, h2⟩
   ·exact .inl ⟨h1, fun hm => (List.mem_append.1 hm).elim h2 (fun h3 => e (List.mem_singleton.1 h3))⟩
   ·exact .inr ⟨j, h1, get_app _ h2⟩
 ·rcases List.mem_append.1 hy with h1 | h1
  ·exact h.lt y h1
  ·rw [List.mem_singleton.1 h1]; exact hx
 ·rw [List.nodup_append]
  refine ⟨h.nodup, by simp, fun a ha b hb e => ?_⟩
  rw [List.mem_singleton.1 hb] at e
  exact hn (e ▸ ha)
theorem Tab.le {N : Nat} {li : List Nat} {tab : List Int} (h : Tab N li tab) : li.length ≤ N := by
 have := Go.Proofs.YtbamnonamdpooaaDoor.Tdy.nodup_le (l := li) (m := List.range N) h.nodup (fun x hx => List.mem_range.2 (h.lt x hx))
 simpa using this
/-- What a row says: -1, or the place of the next one. -/
def RowOk (nx : Nat → Nat → Option Nat) (li : List Nat) (x : Nat) (r : List Int) : Prop :=
 ∀ c, c < r.length → (nx x c = none ∧ r[c]? = some (-1)) ∨ ∃ t j : Nat, nx x c = some t ∧ r[c]? = some (j : Int) ∧ li[j]? = some t
theorem RowOk.grow {nx : Nat → Nat → Option Nat} {li : List Nat} {x : Nat} {r : List Int} (h : RowOk nx li x r) (m : List Nat) : RowOk nx (li ++ m) x r := fun c hc => by
 rcases h c hc with h | ⟨t, j, h1, h2, h3⟩
 ·exact .inl h
 ·exact .inr ⟨t, j, h1, h2, get_app m h3⟩
theorem RowOk.none {nx : Nat → Nat → Option Nat} {li : List Nat} {x : Nat} {r : List Int} (h : RowOk nx li x r) (hx : nx x r.length = none) : RowOk nx li x (r ++ [-1]) := fun c hc => by
 by_cases e : c = r.length
 ·subst e
  exact .inl ⟨hx, by simp⟩
 ·have hc' : c < r.length := by rw [List.length_append, List.length_singleton] at hc; omega
  rcases h c hc' with ⟨h1, h2⟩ | ⟨t, j, h1, h2, h3⟩
  ·exact .inl ⟨h1, get_app _ h2⟩
  ·exact .inr ⟨t, j, h1, get_app _ h2, h3⟩
theorem RowOk.some {nx : Nat → Nat → Option Nat} {li : List Nat} {x t j : Nat} {r : List Int} (h : RowOk nx li x r) (hx : nx x r.length = Option.some t) (hj : li[j]? = Option.some t) : RowOk nx li x (r ++ [(j : Int)]) := fun c hc => by
 by_cases e : c = r.length
 ·subst e
  exact .inr ⟨t, j, hx, by simp, hj⟩
 ·have hc' : c < r.length := by rw [List.length_append, List.length_singleton] at hc; omega
  rcases h c hc' with ⟨h1, h2⟩ | ⟨t', j', h1, h2, h3⟩
  ·exact .inl ⟨h1, get_app _ h2⟩
  ·exact .inr ⟨t', j', h1, get_app _ h2, h3⟩
/-- Entries below 0 are the dead state's. -/
def fixE (L : Nat) (e : Int) : Int := if e < 0 then (L : Int) else e
def fixTo (L k : Nat) (rws : List (List Int)) : List (List Int) := (rws.take k).map (fun r => r.map (fixE L)) ++ rws.drop k
def rowTo (L c : Nat) (r : List Int) : List Int := (r.take c).map (fixE L) ++ r.drop c
theorem fixTo_get {L k : Nat} {rws : List (List Int)} {r : List Int} (h : rws[k]? = some r) : (fixTo L k rws)[k]? = some r := by
 obtain ⟨hk, e⟩ := List.getElem?_eq_some_iff.1 h
 unfold fixTo
 rw [List.getElem?_append_right (by simp; omega)]
 simp only [List.length_map, List.length_take, Nat.min_eq_left (Nat.le_of_lt hk), Nat.sub_self, List.getElem?_drop, Nat.add_zero]
 exact h
theorem fixTo_length {L k : Nat} {rws : List (List Int)} : (fixTo L k rws).length = rws.length := by
 unfold fixTo
 simp
 omega
theorem fixTo_set {L k : Nat} {rws : List (List Int)} {r : List Int} (h : rws[k]? = some r) : (fixTo L k rws).set k (r.map (fixE L)) = fixTo L (k + 1) rws := by
 obtain ⟨hk, e⟩ := List.getElem?_eq_some_iff.1 h
 unfold fixTo
 rw [List.set_append_right _ _ (by simp; omega)]
 simp only [List.length_map, List.length_take, Nat.min_eq_left (Nat.le_of_lt hk), Nat.sub_self]
 rw [List.drop_eq_getElem_cons hk, List.set_cons_zero, List.take_add_one, h, List.map_append, List.append_assoc]
 rfl
theorem rowTo_length {L c : Nat} {r : List Int} : (rowTo L c r).length = r.length := by
 unfold rowTo
 simp
 omega
theorem rowTo_step {L c : Nat} {r : List Int} (h : c < r.length) : rowTo L (c + 1) r = (rowTo L c r).set c (fixE L r[c]) := by
 unfold rowTo
 rw [List.set_append_right _ _ (by simp; omega)]
 simp only [List.length_map, List.length_take, Nat.min_eq_left (Nat.le_of_lt h), Nat.sub_self]
 rw [List.drop_eq_getElem_cons h, List.set_cons_zero, List.take_add_one, List.getElem?_eq_getElem h, List.map_append, List.append_assoc]
 rfl
theorem rowTo_get {L c : Nat} {r : List Int} (h : c < r.length) : (rowTo L c r)[c]'(by rw [rowTo_length]; exact h) = r[c] := by
 have e : (rowTo L c r)[c]? = some r[c] := by
  unfold rowTo
  rw [List.getElem?_append_right (by simp; omega)]
  simp only [List.length_map, List.length_take, Nat.min_eq_left (Nat.le_of_lt h), Nat.sub_self, List.getElem?_drop, Nat.add_zero]
  exact List.getElem?_eq_getElem h
 rw [List.getElem?_eq_getElem (by rw [rowTo_length]; exact h)] at e
 exact Option.some.inj e
theorem rowTo_same {L c : Nat} {r : List Int} (h : c < r.length) (h0 : 0 ≤ r[c]) : rowTo L (c + 1) r = rowTo L c r := by
 rw [rowTo_step h]
 have e : fixE L r[c] = r[c] := by unfold fixE; rw [if_neg (by omega)]
 rw [e]
 have h2 : c < (rowTo L c r).length := by rw [rowTo_length]; exact h
 refine List.ext_getElem (by simp) (fun j h3 h4 => ?_)
 by_cases ej : c = j
 ·subst ej
  rw [List.getElem_set_self, rowTo_get h]
 ·rw [List.getElem_set_ne ej]
theorem oks_step {nx : Nat → Nat → Option Nat} {li li2 m : List Nat} {rws : List (List Int)} {r : List Int} {x i : Nat} (hm : li2 = li ++ m) (hl : rws.length = i) (hi : i < li.length) (hx : li[i]? = some x) (hok : ∀ (k x : Nat) (r : List Int), li[k]? = some x → rws[k]? = some r → RowOk nx li x r) (hr : RowOk nx li2 x r) :
  ∀ (k x : Nat) (r' : List Int), li2[k]? = some x → (rws ++ [r])[k]? = some r' → RowOk nx li2 x r' := by
 intro k x' r' h1 h2
 by_cases hk : k < rws.length
 ·rw [List.getElem?_append_left hk] at h2
  rw [hm, List.getElem?_append_left (by omega)] at h1
  rw [hm]
  exact (hok k x' r' h1 h2).grow m
 ·have hk2 : k = rws.length := by
   have := (List.getElem?_eq_some_iff.1 h2).1
   rw [List.length_append, List.length_singleton] at this
   omega
  subst hk2
  rw [List.getElem?_append_right (Nat.le_refl _), Nat.sub_self] at h2
  rw [hl, hm, List.getElem?_append_left hi, hx] at h1
  cases h1
  cases h2
  exact hr
theorem take_step {li li2 m : List Nat} {x i : Nat} (hm : li2 = li ++ m) (hi : i < li.length) (hx : li[i]? = some x) : li2.take (i + 1) = li.take i ++ [x] := by
 have h2 : i < li2.length := by rw [hm, List.length_append]; omega
 have h3 : li2[i]? = some x := by rw [hm, List.getElem?_append_left hi]; exact hx
 rw [List.take_add_one, h3, hm, List.take_append_of_le_length (by omega)]
 rfl
/-! ### in memory -/
abbrev SR (W : World) (base : Nat) (v : Value) (xs : List Int) : Prop := (Kd.int .i64).R 2 W base (fun _ => True) v xs
def encH (n : Nat) (h : Nat × Nat) : Value := .slice (some ⟨h.1, 0, none⟩) n h.2
def hk (n : Nat) : Kd (Nat × Nat) := Kd.scalar (encH n) (fun _ => rfl)
theorem SR.move {W W' : World} {base : Nat} {v : Value} {xs : List Int} {y : Option Nat} (h : SR W base v xs) (hk : Keep W W' y) (hne : ∀ k, v.ownBlock = some k → some k ≠ y) : SR W' base v xs := by
 have h1 : (Kd.int .i64).R 2 W base (fun k => True ∧ some k ≠ y) v xs := Kd.R_of_own (Kd.own_of_R h) (fun k hk => ⟨trivial, hne k hk⟩)
 exact Kd.R_mono (R_apart h1 hk) (fun _ _ => trivial)
/-- What stands before the relation is made. -/
structure R0 (w0 : World) (gp : Nat) (par : Array Value) (vT : Value) (tab : List Int) (W : World) : Prop where
 bP : W.heap[gp]? = some (.cells par 29 (0, 0))
 bR : W.heap[w0.heap.size]? = some (.cells #[.int .i64 0, .int .i64 0, .slice none 0 0, .slice none 0 0] 29 (0, 0))
 tab : SR W w0.heap.size vT tab
 bel : Below w0.heap.size w0 W
theorem R0.set {w0 : World} {gp : Nat} {par : Array Value} {tab : List Int} {g n c : Nat} {W : World} (h : R0 w0 gp par (.slice (some ⟨g, 0, none⟩) n c) tab W) (hg : w0.heap.size ≤ g) (i : Nat) (x : Int) : R0 w0 gp par (.slice (some ⟨g, 0, none⟩) n c) (tab.set i x) (W.setCell ⟨g, i, none⟩ (.int .i64 x)) := by
 have hk := Keep.set W ⟨g, i, none⟩ (.int .i64 x)
 have hy : ∀ E : List Nat, (∀ q ∈ E, q ≠ 2) → Off W (some g) E := fun E hE => Off.row h.tab hE
 exact ⟨hk.obj h.bP (off_ne h.bP (hy _ (by decide))), hk.obj h.bR (off_ne h.bR (hy _ (by decide))), Kd.R_putn h.tab (i : Int) x, h.bel.setCell hg _⟩
theorem R0.step {w0 : World} {gp : Nat} {par : Array Value} {vT : Value} {tab : List Int} {W W' : World} (h : R0 w0 gp par vT tab W) (hb : Below W.heap.size W W') : R0 w0 gp par vT tab W' := ⟨blk_below h.bP hb, blk_below h.bR hb, Kd.R_below h.tab hb, below_step h.bel hb⟩
theorem sr_at {W : World} {base b n c i : Nat} {l : List Int} (h : SR W base (.slice (some ⟨b, 0, none⟩) n c) l) (hi : i < l.length) : W.cell? ⟨b, i, none⟩ = some (.int .i64 l[i]) := by
 obtain ⟨_, _, hC⟩ := Kd.R_reads' h
 obtain ⟨ad, e1, k1⟩ := at_num hC i hi
 cases e1
 have ea : (⟨b, 0, none⟩ : Addr).add i = ⟨b, i, none⟩ := by
  by_cases h0 : i = 0
  ·subst h0; rfl
  ·simp [Addr.add, h0]
 rw [ea] at k1
 exact k1
theorem sr_at' {W : World} {base n c i : Nat} {A : Option Addr} {l : List Int} (h : SR W base (.slice A n c) l) (hi : i < l.length) : ∃ ad, A = some ad ∧ W.cell? (ad.add i) = some (.int .i64 l[i]) := by
 obtain ⟨_, _, hC⟩ := Kd.R_reads' h
 exact at_num hC i hi
theorem tab_start {N s0 : Nat} (h : s0 < N) : Tab N [s0] ((List.replicate N (-1 : Int)).set s0 0) := by
 have h0 : Tab N [] (List.replicate N (-1 : Int)) := ⟨by simp, fun x hx => .inl ⟨by simp [hx], by simp⟩, (fun x hx => by cases hx), List.nodup_nil⟩
 exact h0.push h (by simp)
theorem sr_zero (W : World) (base : Nat) (hb : base ≤ W.heap.size) : SR (W.alloc (.cells #[] 2)) base (.slice (some ⟨W.heap.size, 0, none⟩) 0 0) [] := by
 have h : (W.alloc (.cells #[] 2)).ownsRow base 2 1 (.slice (some ⟨W.heap.size, 0, none⟩) 0 0) 0 [] := by simpa using World.ownsRow_lit (base := base) (e := 2) (size := 1) W #[] 0 hb (by simp [maxLen]) (by simp)
 exact ⟨fun _ _ => trivial, [], h, Reps.none _ _⟩
theorem fill_step (n i : Nat) (hi : i < n) : (List.replicate i (-1 : Int) ++ List.replicate (n - i) 0).set i (-1) = List.replicate (i + 1) (-1) ++ List.replicate (n - (i + 1)) 0 := by
 have e3 : n - i = (n - (i + 1)) + 1 := by omega
 rw [e3, List.replicate_succ, List.set_append_right _ _ (by simp), List.length_replicate, Nat.sub_self, List.set_cons_zero, List.replicate_succ', List.append_assoc]
 rfl
/-- The relation that is made, the table, the list, the rows (each with its own block). -/
structure Rt (w0 : World) (gp : Nat) (par : Array Value) (tapes : Int) (gV : Nat) (vT : Value) (tab : List Int) (vL : Value) (li : List Int) (vA : Value) (bs : List Bool) (vN : Value) (hs : List (Nat × Nat)) (rws : List (List Int)) (wd : Nat) (W : World) : Prop where
 bP : W.heap[gp]? = some (.cells par 29 (0, 0))
 bR : W.heap[w0.heap.size]? = some (.cells #[.int .i64 0, .int .i64 0, .slice none 0 0, .slice none 0 0] 29 (0, 0))
 bV : W.heap[gV]? = some (.cells #[.int .i64 tapes, .int .i64 0, vA, vN] 29 (0, 0))
 tab : SR W w0.heap.size vT tab
 lst : SR W w0.heap.size vL li
 acc : Kd.R Kd.bool 4 W w0.heap.size (fun _ => True) vA bs
 out : Kd.R (hk wd) 86 W w0.heap.size (fun _ => True) vN hs
 inn : ∀ (i : Nat) (h : Nat × Nat) (r : List Int), hs[i]? = some h → rws[i]? = some r → SR W w0.heap.size (encH wd h) r
 far : ∀ h ∈ hs, some h.1 ≠ vT.ownBlock ∧ some h.1 ≠ vL.ownBlock
 sep : hs.Pairwise (fun a b => a.1 ≠ b.1)
 tl : ∀ k, vT.ownBlock = some k → some k ≠ vL.ownBlock
 len : hs.length = rws.length
 bel : Below w0.heap.size w0 W
section
variable {w0 : World} {gp : Nat} {par : Array Value} {tapes : Int} {gV : Nat} {vT : Value} {tab : List Int} {vL : Value} {li : List Int} {vA : Value} {bs : List Bool} {vN : Value} {hs : List (Nat × Nat)} {rws : List (List Int)} {wd : Nat} {W W' : World}
theorem Rt.step (h : Rt w0 gp par tapes gV vT tab vL li vA bs vN hs rws wd W) (hb : Below W.heap.size W W') : Rt w0 gp par tapes gV vT tab vL li vA bs vN hs rws wd W' :=
 ⟨blk_below h.bP hb, blk_below h.bR hb, blk_below h.bV hb, Kd.R_below h.tab hb, Kd.R_below h.lst hb, Kd.R_below h.acc hb, Kd.R_below h.out hb, fun i a r ha hr => Kd.R_below (h.inn i a r ha hr) hb, h.far, h.sep, h.tl, h.len, below_step h.bel hb⟩
theorem Rt.lt (h : Rt w0 gp par tapes gV vT tab vL li vA bs vN hs rws wd W) {a : Nat × Nat} (ha : a ∈ hs) (hl : hs.length = rws.length) : a.1 < W.heap.size := by
 obtain ⟨i, hi, rfl⟩ := List.getElem_of_mem ha
 exact Kd.R_lt (h.inn i hs[i] (rws[i]'(by omega)) (List.getElem?_eq_getElem hi) (List.getElem?_eq_getElem (by omega))) _ rfl
/-- A block of numbers other than these is written. -/
theorem Rt.keep (h : Rt w0 gp par tapes gV vT tab vL li vA bs vN hs rws wd W) {y : Option Nat} (hk : Keep W W' y) (hy : ∀ E : List Nat, (∀ q ∈ E, q ≠ 2) → Off W y E) (hT : ∀ k, vT.ownBlock = some k → some k ≠ y) (hL : ∀ k, vL.ownBlock = some k → some k ≠ y) (hI : ∀ a ∈ hs, some a.1 ≠ y) (hb : Below w0.heap.size w0 W') :
  Rt w0 gp par tapes gV vT tab vL li vA bs vN hs rws wd W' :=
 ⟨hk.obj h.bP (off_ne h.bP (hy _ (by decide))), hk.obj h.bR (off_ne h.bR (hy _ (by decide))), hk.obj h.bV (off_ne h.bV (hy _ (by decide))), h.tab.move hk hT, h.lst.move hk hL, R_off h.acc hk (hy _ (by decide)), R_off h.out hk (hy _ (by show ∀ q, q ∈ [86] → q ≠ _; decide)),
  fun i a r ha hr => (h.inn i a r ha hr).move hk (fun k e => by cases e; exact hI a (List.mem_of_getElem? ha)), h.far, h.sep, h.tl, h.len, hb⟩
/-- The table is written. -/
theorem Rt.set {g n c : Nat} (h : Rt w0 gp par tapes gV (.slice (some ⟨g, 0, none⟩) n c) tab vL li vA bs vN hs rws wd W) (hg : w0.heap.size ≤ g) (i : Nat) (x : Int) : Rt w0 gp par tapes gV (.slice (some ⟨g, 0, none⟩) n c) (tab.set i x) vL li vA bs vN hs rws wd (W.setCell ⟨g, i, none⟩ (.int .i64 x)) := by
 have hk := Keep.set W ⟨g, i, none⟩ (.int .i64 x)
 have hy : ∀ E : List Nat, (∀ q ∈ E, q ≠ 2) → Off W (some g) E := fun E hE => Off.row h.tab hE
 exact ⟨hk.obj h.bP (off_ne h.bP (hy _ (by decide))), hk.obj h.bR (off_ne h.bR (hy _ (by decide))), hk.obj h.bV (off_ne h.bV (hy _ (by decide))), Kd.R_putn h.tab (i : Int) x, h.lst.move hk (fun k e e2 => by cases e2; exact h.tl g rfl e.symm), R_off h.acc hk (hy _ (by decide)), R_off h.out hk (hy _ (by show ∀ q, q ∈ [86] → q ≠ _; decide)),
  fun j a r ha hr => (h.inn j a r ha hr).move hk (fun k e e2 => by cases e; exact (h.far a (List.mem_of_getElem? ha)).1 e2), h.far, h.sep, h.tl, h.len, h.bel.setCell hg _⟩
theorem ne_after {W : World} {v v1 : Value} {g : Nat} (hat : v1.ownBlock = v.ownBlock ∨ ∃ b, v1.ownBlock = some b ∧ W.heap.size ≤ b) (hg : g < W.heap.size) (hne : some g ≠ v.ownBlock) : some g ≠ v1.ownBlock := by
 rcases hat with e | ⟨b, e, hb⟩
 ·rw [e]; exact hne
 ·rw [e]
  intro e2
  cases e2
  omega
/-- Something is put behind the list. -/
theorem Rt.push {v1 : Value} {li' : List Int} (h : Rt w0 gp par tapes gV vT tab vL li vA bs vN hs rws wd W) (hg : W.grownBy W' vL.ownBlock) (hat : v1.ownBlock = vL.ownBlock ∨ ∃ b, v1.ownBlock = some b ∧ W.heap.size ≤ b) (hR : SR W' w0.heap.size v1 li') (hb : Below w0.heap.size w0 W') : Rt w0 gp par tapes gV vT tab v1 li' vA bs vN hs rws wd W' := by
 have hk := Keep.grown hg
 have hy : ∀ E : List Nat, (∀ q ∈ E, q ≠ 2) → Off W vL.ownBlock E := fun E hE => Off.row h.lst hE
 exact ⟨hk.obj h.bP (off_ne h.bP (hy _ (by decide))), hk.obj h.bR (off_ne h.bR (hy _ (by decide))), hk.obj h.bV (off_ne h.bV (hy _ (by decide))), h.tab.move hk h.tl, hR, R_off h.acc hk (hy _ (by decide)), R_off h.out hk (hy _ (by show ∀ q, q ∈ [86] → q ≠ _; decide)),
  fun i a r ha hr => (h.inn i a r ha hr).move hk (fun k e => by cases e; exact (h.far a (List.mem_of_getElem? ha)).2), fun a ha => ⟨(h.far a ha).1, ne_after hat (h.lt ha h.len) (h.far a ha).2⟩, h.sep, fun k hk => ne_after hat (Kd.R_lt h.tab k hk) (h.tl k hk), h.len, hb⟩
/-- A mark is put behind the marks. -/
theorem Rt.mark {v1 : Value} {bs' : List Bool} (h : Rt w0 gp par tapes gV vT tab vL li vA bs vN hs rws wd W) (hV : w0.heap.size < gV) (hp : gp ≠ gV) (hg : W.grownBy W' vA.ownBlock) (hR : Kd.R Kd.bool 4 W' w0.heap.size (fun _ => True) v1 bs') (hb : Below w0.heap.size w0 W') :
  W'.heap[gV]? = some (.cells #[.int .i64 tapes, .int .i64 0, vA, vN] 29 (0, 0)) ∧ Rt w0 gp par tapes gV vT tab vL li v1 bs' vN hs rws wd (W'.setCell ⟨gV, 2, none⟩ v1) := by
 have hk := Keep.grown hg
 have hy : ∀ E : List Nat, (∀ q ∈ E, q ≠ 4) → Off W vA.ownBlock E := fun E hE => Off.row h.acc hE
 have bV := hk.obj h.bV (off_ne h.bV (hy _ (by decide)))
 refine ⟨bV, ?_⟩
 have hs := Keep.set W' ⟨gV, 2, none⟩ v1
 have p : ∀ E : List Nat, (∀ q ∈ E, q ≠ 29) → Off W' (some gV) E := fun E hE => Off.cells bV hE
 have n0 : some w0.heap.size ≠ some gV := fun e => by injection e; omega
 have n1 : some gp ≠ some gV := fun e => by injection e; omega
 exact ⟨hs.obj (hk.obj h.bP (off_ne h.bP (hy _ (by decide)))) n1, hs.obj (hk.obj h.bR (off_ne h.bR (hy _ (by decide)))) n0, blk_put bV 2 v1 rfl, R_off (R_off h.tab hk (hy _ (by decide))) hs (p _ (by decide)), R_off (R_off h.lst hk (hy _ (by decide))) hs (p _ (by decide)), R_off hR hs (p _ (by decide)), R_off (R_off h.out hk (hy _ (by show ∀ q, q ∈ [86] → q ≠ _; decide))) hs (p _ (by show ∀ q, q ∈ [86] → q ≠ _; decide)),
  fun i a r ha hr => R_off (R_off (h.inn i a r ha hr) hk (hy _ (by decide))) hs (p _ (by decide)), h.far, h.sep, h.tl, h.len, hb.setCell (p := ⟨gV, 2, none⟩) (by simp only; omega) v1⟩
/-- A row is put behind the rows. -/
theorem Rt.row {v1 : Value} {a : Nat × Nat} {r : List Int} (h : Rt w0 gp par tapes gV vT tab vL li vA bs vN hs rws wd W) (hV : w0.heap.size < gV) (hp : gp ≠ gV) (hg : W.grownBy W' vN.ownBlock) (hR : Kd.R (hk wd) 86 W' w0.heap.size (fun _ => True) v1 (hs ++ [a])) (hb : Below w0.heap.size w0 W')
  (hr : SR W w0.heap.size (encH wd a) r) (hf : some a.1 ≠ vT.ownBlock ∧ some a.1 ≠ vL.ownBlock) (hi : ∀ b ∈ hs, b.1 ≠ a.1) :
  W'.heap[gV]? = some (.cells #[.int .i64 tapes, .int .i64 0, vA, vN] 29 (0, 0)) ∧ Rt w0 gp par tapes gV vT tab vL li vA bs v1 (hs ++ [a]) (rws ++ [r]) wd (W'.setCell ⟨gV, 3, none⟩ v1) := by
 have hk := Keep.grown hg
 have hy : ∀ E : List Nat, (∀ q ∈ E, q ≠ 86) → Off W vN.ownBlock E := fun E hE => Off.row h.out hE
 have bV := hk.obj h.bV (off_ne h.bV (hy _ (by decide)))
 refine ⟨bV, ?_⟩
 have hS := Keep.set W' ⟨gV, 3, none⟩ v1
 have p : ∀ E : List Nat, (∀ q ∈ E, q ≠ 29) → Off W' (some gV) E := fun E hE => Off.cells bV hE
 have n0 : some w0.heap.size ≠ some gV := fun e => by injection e; omega
 have n1 : some gp ≠ some gV := fun e => by injection e; omega
 have mv : ∀ {v : Value} {xs : List Int}, SR W w0.heap.size v xs → SR (W'.setCell ⟨gV, 3, none⟩ v1) w0.heap.size v xs := fun h => R_off (R_off h hk (hy _ (by decide))) hS (p _ (by decide))
 refine ⟨hS.obj (hk.obj h.bP (off_ne h.bP (hy _ (by decide)))) n1, hS.obj (hk.obj h.bR (off_ne h.bR (hy _ (by decide)))) n0, blk_put bV 3 v1 rfl, mv h.tab, mv h.lst, R_off (R_off h.acc hk (hy _ (by decide))) hS (p _ (by decide)), R_off hR hS (p _ (by show ∀ q, q ∈ [86] → q ≠ _; decide)), ?_, ?_, ?_, h.tl, by rw [List.length_append, List.length_append, h.len]; rfl, hb.setCell (p := ⟨gV, 3, none⟩) (by simp only; omega) v1⟩
 ·intro i b r' hb' hr'
  by_cases e : i < hs.length
  ·rw [List.getElem?_append_left e] at hb'
   rw [List.getElem?_append_left (by rw [← h.len]; exact e)] at hr'
   exact mv (h.inn i b r' hb' hr')
  ·have : i = hs.length := by
    have := (List.getElem?_eq_some_iff.1 hb').1
    rw [List.length_append, List.length_singleton] at this
    omega
   subst this
   rw [List.getElem?_append_right (Nat.le_refl _), Nat.sub_self] at hb'
   rw [h.len, List.getElem?_append_right (Nat.le_refl _), Nat.sub_self] at hr'
   cases hb'
   cases hr'
   exact mv hr
 ·intro b hb'
  rcases List.mem_append.1 hb' with hb' | hb'
  ·exact h.far b hb'
  ·rw [List.mem_singleton.1 hb']; exact hf
 ·rw [List.pairwise_append]
  exact ⟨h.sep, by simp, fun b hb' c hc => by rw [List.mem_singleton.1 hc]; exact hi b hb'⟩
/-- What a row that is being made keeps clear of. -/
def Clear (vr vT vL : Value) (hs : List (Nat × Nat)) : Prop := ∀ k, vr.ownBlock = some k → some k ≠ vT.ownBlock ∧ some k ≠ vL.ownBlock ∧ ∀ a ∈ hs, a.1 ≠ k
theorem Rt.app {vr v1 : Value} {r : List Int} (h : Rt w0 gp par tapes gV vT tab vL li vA bs vN hs rws wd W) (hr : SR W w0.heap.size vr r) (hf : Clear vr vT vL hs) (hg : W.grownBy W' vr.ownBlock) (hat : v1.ownBlock = vr.ownBlock ∨ ∃ b, v1.ownBlock = some b ∧ W.heap.size ≤ b) (hb : Below w0.heap.size w0 W') :
  Rt w0 gp par tapes gV vT tab vL li vA bs vN hs rws wd W' ∧ Clear v1 vT vL hs := by
 refine ⟨h.keep (Keep.grown hg) (fun E hE => Off.row hr hE) (fun k hk e => (hf k e.symm).1 hk.symm) (fun k hk e => (hf k e.symm).2.1 hk.symm) (fun a ha e => (hf a.1 e.symm).2.2 a ha rfl) hb, fun k hk => ?_⟩
 rcases hat with e | ⟨b, e, hbl⟩
 ·exact hf k (by rw [← e]; exact hk)
 ·rw [e] at hk
  cases hk
  exact ⟨fun e2 => by have := Kd.R_lt h.tab _ e2.symm; omega, fun e2 => by have := Kd.R_lt h.lst _ e2.symm; omega, fun a ha e2 => by have := h.lt ha h.len; omega⟩
theorem Clear.push {vr v1 : Value} {r : List Int} (hf : Clear vr vT vL hs) (hr : SR W w0.heap.size vr r) (hat : v1.ownBlock = vL.ownBlock ∨ ∃ b, v1.ownBlock = some b ∧ W.heap.size ≤ b) : Clear vr vT v1 hs := fun k hk =>
 ⟨(hf k hk).1, ne_after hat (Kd.R_lt hr k hk) (hf k hk).2.1, (hf k hk).2.2⟩
/-- An entry of row i is written. -/
theorem Rt.fix {i : Nat} {a : Nat × Nat} {r : List Int} (h : Rt w0 gp par tapes gV vT tab vL li vA bs vN hs rws wd W) (ha : hs[i]? = some a) (hr : rws[i]? = some r) (hg : w0.heap.size ≤ a.1) (c : Nat) (x : Int) : Rt w0 gp par tapes gV vT tab vL li vA bs vN hs (rws.set i (r.set c x)) wd (W.setCell ⟨a.1, c, none⟩ (.int .i64 x)) := by
 have hk := Keep.set W ⟨a.1, c, none⟩ (.int .i64 x)
 have hrow := h.inn i a r ha hr
 have hy : ∀ E : List Nat, (∀ q ∈ E, q ≠ 2) → Off W (some a.1) E := fun E hE => Off.row hrow hE
 have hm := List.mem_of_getElem? ha
 refine ⟨hk.obj h.bP (off_ne h.bP (hy _ (by decide))), hk.obj h.bR (off_ne h.bR (hy _ (by decide))), hk.obj h.bV (off_ne h.bV (hy _ (by decide))), h.tab.move hk (fun k e e2 => (h.far a hm).1 (by rw [e, ← e2])), h.lst.move hk (fun k e e2 => (h.far a hm).2 (by rw [e, ← e2])), R_off h.acc hk (hy _ (by decide)), R_off h.out hk (hy _ (by show ∀ q, q ∈ [86] → q ≠ _; decide)), ?_, h.far, h.sep, h.tl, by rw [List.length_set]; exact h.len, h.bel.setCell hg _⟩
 intro j b r' hb hr'
 by_cases e : j = i
 ·subst e
  rw [ha] at hb
  cases hb
  rw [List.getElem?_set_self (List.getElem?_eq_some_iff.1 hr).1] at hr'
  cases hr'
  exact Kd.R_putn hrow (c : Int) x
 ·rw [List.getElem?_set_ne (fun e' => e e'.symm)] at hr'
  refine (h.inn j b r' hb hr').move hk (fun k ek e2 => ?_)
  cases ek
  obtain ⟨hi, ei⟩ := List.getElem?_eq_some_iff.1 ha
  obtain ⟨hj, ej⟩ := List.getElem?_eq_some_iff.1 hb
  have hs' := List.pairwise_iff_getElem.1 h.sep
  have e3 : b.1 = a.1 := by injection e2
  rcases Nat.lt_or_ge i j with hij | hij
  ·exact hs' i j hi hj hij (by rw [ei, ej]; exact e3.symm)
  ·exact hs' j i hj hi (by omega) (by rw [ei, ej]; exact e3)
/-- Row i's header, as it lies. -/
theorem Rt.head {i n c : Nat} {A : Option Addr} {a : Nat × Nat} (h : Rt w0 gp par tapes gV vT tab vL li vA bs (.slice A n c) hs rws wd W) (ha : hs[i]? = some a) : ∃ ad, A = some ad ∧ W.cell? (ad.add i) = some (encH wd a) := by
 obtain ⟨hn, _, hC⟩ := Kd.R_reads' h.out
 obtain ⟨hi, ei⟩ := List.getElem?_eq_some_iff.1 ha
 obtain ⟨ad, e, hc⟩ := hC.2.2 (by omega)
 obtain ⟨cs, h1, h2, h3⟩ := hc i a ha
 have h2' : cs = [encH wd a] := h2
 subst h2'
 refine ⟨ad, e, ?_⟩
 have := h3 0 _ rfl
 simpa [hk, Kd.scalar] using this
/-- The rows, as rows of rows. -/
theorem Rt.rows (h : Rt w0 gp par tapes gV vT tab vL li vA bs vN hs rws wd W) : Kd.R (Kd.slice 2 (Kd.int .i64)) 86 W w0.heap.size (fun _ => True) vN rws := by
 have ho : W.ownsRow w0.heap.size 86 1 vN hs.length (hs.map (encH wd)) := Kd.own_of_R (enc := encH wd) (h1 := fun _ => rfl) h.out
 refine ⟨fun _ _ => trivial, hs.map (encH wd), ?_, ?_⟩
 ·rw [← h.len]
  exact ho
 ·refine ⟨by rw [List.length_map, h.len]; show _ = _ * 1; omega, fun j p hj => ?_⟩
  obtain ⟨hjl, _⟩ := List.getElem?_eq_some_iff.1 hj
  have hjh : j < hs.length := by rw [h.len]; exact hjl
  have hi := h.inn j hs[j] p (List.getElem?_eq_getElem hjh) hj
  have e : ((hs.map (encH wd)).drop (j * (Kd.slice 2 (Kd.int .i64)).sz)).take (Kd.slice 2 (Kd.int .i64)).sz = [encH wd hs[j]] := by
   show ((hs.map (encH wd)).drop (j * 1)).take 1 = _
   rw [Nat.mul_one, List.drop_eq_getElem_cons (by rw [List.length_map]; exact hjh)]
   simp
  rw [e]
  exact ⟨_, rfl, R_typed hi h.out (by decide)⟩
end
end Go.Proofs.YtbamnonamdpooaaDoor.Rg
namespace Go.Proofs.YtbamnonamdpooaaDoor.Ti
set_option linter.unusedVariables false
set_option linter.unusedSimpArgs false
open Go.RowKit Tdy Td Mg Rg
abbrev Pl := GwP.Pl
theorem classes_onto {rows : List (List Nat)} : ∀ (f : Nat) (g : List Nat) (m : Nat) (g' : List Nat), classes rows f g m = some g' → g'.length = rows.length ∧ ∃ L, Onto rows.length (fun x => g'.getD x 0) L
 | 0, _, _, _, he => by simp [classes] at he
 | f + 1, g, m, g', he => by
  have hn := number_spec (keys rows g) [] List.Pairwise.nil
  have hl : (keys rows g).length = rows.length := by simp [keys]
  have ho' := hn.onto
  rw [hl] at ho'
  unfold classes at he
  split at he
  ·obtain rfl := Option.some.inj he
   exact ⟨by rw [hn.len, hl], _, ho'⟩
  ·exact classes_onto f _ _ g' he
theorem ones_len (g : List Nat) : ∀ n, (ones g n).length = g.length
 | 0 => by simp [ones]
 | n + 1 => by
  have e : ones g (n + 1) = (ones g n).set (g.getD n 0) n := by simp [ones, List.range_succ]
  rw [e, List.length_set, ones_len g n]
theorem ones_at (g : List Nat) (hlt : ∀ x, x < g.length → g.getD x 0 < g.length) : ∀ n, n ≤ g.length → ∀ x, x < n → (ones g n).getD (g.getD x 0) 0 < n ∧ g.getD ((ones g n).getD (g.getD x 0) 0) 0 = g.getD x 0
 | 0, _, x, hx => by omega
 | n + 1, hn, x, hx => by
  have e : ones g (n + 1) = (ones g n).set (g.getD n 0) n := by simp [ones, List.range_succ]
  have hgn := hlt n (by omega)
  rw [e]
  by_cases h : g.getD n 0 = g.getD x 0
  ·have e2 : ((ones g n).set (g.getD n 0) n).getD (g.getD x 0) 0 = n := by
    rw [← h, List.getD_eq_getElem?_getD, List.getElem?_set_self (by rw [ones_len]; exact hgn)]
    rfl
   rw [e2]
   exact ⟨by omega, h⟩
  ·have hx' : x < n := by
    rcases Nat.lt_or_ge x n with h1 | h1
    ·exact h1
    ·have : x = n := by omega
     exact absurd (by rw [this]) h
   have e2 : ((ones g n).set (g.getD n 0) n).getD (g.getD x 0) 0 = (ones g n).getD (g.getD x 0) 0 := by
    rw [List.getD_eq_getElem?_getD, List.getElem?_set_ne h, ← List.getD_eq_getElem?_getD]
   rw [e2]
   have := ones_at g hlt n (by omega) x hx'
   exact ⟨by omega, this.2⟩
theorem isOne {rows : List (List Nat)} {g : List Nat} (hl : g.length = rows.length) {L : Nat} (ho : Onto rows.length (fun x => g.getD x 0) L) : IsOne rows g (oneOf g) := by
 have hlt : ∀ x, x < g.length → g.getD x 0 < g.length := fun x hx => by
  have h1 := ho.lt x (by omega)
  have h2 := ho.le_n
  have h3 : g.getD x 0 < L := h1
  omega
 unfold oneOf
 exact ⟨fun x hx => by rw [← hl] at hx ⊢; exact (ones_at g hlt g.length (Nat.le_refl _) x hx).1, fun x hx => by rw [← hl] at hx; exact (ones_at g hlt g.length (Nat.le_refl _) x hx).2⟩
/-- No tape that has ended goes on. -/
def okC (pad : Nat → Nat) (e c : Nat) : Bool := decide (bits .andNot .i64 (e : Int) (pad c : Int) = 0)
def enC (pad : Nat → Nat) (e c : Nat) : Option Nat := if okC pad e c then some (pad c) else none
def plA (rows : List (List Nat)) (accs : List Bool) (pad : Nat → Nat) : Aut Pl := ⟨nxtP rows pad, accP accs⟩
theorem pl_same (wd : Nat) (rows : List (List Nat)) (accs : List Bool) (pad : Nat → Nat) (start : Nat) : Same wd (plA rows accs pad) (right (mach rows accs) (okC pad) pad) ((start : Int), (0 : Int)) (some (start, 0)) := by
 refine Same.of (R := fun (p : Pl) (q : Option (Nat × Nat)) => (p = (0, -1) ∧ q = none) ∨ ∃ s e : Nat, p = ((s : Int), (e : Int)) ∧ q = some (s, e)) ?_ ?_ (.inr ⟨start, 0, rfl, rfl⟩)
 ·rintro p q (⟨rfl, rfl⟩ | ⟨s, e, rfl, rfl⟩)
  ·simp [plA, accP, right]
  ·have e0 : ¬ ((e : Int) < 0) := by omega
   simp only [plA, accP, right, mach, e0, if_false, Int.toNat_natCast]
 ·rintro p q (⟨rfl, rfl⟩ | ⟨s, e, rfl, rfl⟩) c hc
  ·refine .inl ⟨?_, rfl⟩
   simp [plA, nxtP]
  ·by_cases hz : bits .andNot .i64 (e : Int) (pad c : Int) = 0
   ·have e0 : ¬ ((e : Int) < 0 ∨ bits .andNot .i64 (e : Int) (pad c : Int) ≠ 0) := by
     rintro (h | h)
     ·omega
     ·exact h hz
    refine .inr ⟨(rows.getD s []).getD c 0, pad c, ?_, ?_⟩
    ·show nxtP rows pad _ c = _
     unfold nxtP
     rw [if_neg e0]
     simp
    ·show (if okC pad e c then some ((mach rows accs).step s c, pad c) else none) = _
     unfold okC
     rw [if_pos (decide_eq_true hz)]
     rfl
   ·refine .inl ⟨?_, ?_⟩
    ·show nxtP rows pad _ c = _
     unfold nxtP
     rw [if_pos (.inr hz)]
    ·show (if okC pad e c then some ((mach rows accs).step s c, pad c) else none) = _
     unfold okC
     rw [if_neg (by simpa using hz)]
/-! ### the reference's machine -/
def rowsX (wd L : Nat) (rws : List (List Int)) : List (List Nat) := rws.map (fun r => r.map (fun e => (fixE L e).toNat)) ++ [List.replicate wd L]
def accsX (accs : List Bool) (size : Nat) (li : List Nat) : List Bool := li.map (fun x => accs.getD (x / size) false) ++ [false]
theorem fixE_nat (L : Nat) (e : Int) : (((fixE L e).toNat : Nat) : Int) = fixE L e := by
 unfold fixE
 split <;> omega
theorem rowsX_ints {wd L : Nat} {rws : List (List Int)} (hl : rws.length = L) : (rowsX wd L rws).map ints = fixTo L L rws ++ [List.replicate wd (L : Int)] := by
 unfold rowsX fixTo
 rw [List.take_of_length_le (by omega), List.drop_of_length_le (by omega), List.append_nil, List.map_append, List.map_map]
 congr 1
 ·apply List.map_congr_left
  intro r _
  simp only [Function.comp_def, ints, GwI.ints, List.map_map]
  apply List.map_congr_left
  intro e _
  exact fixE_nat L e
 ·simp [ints, GwI.ints]
structure Rgt (wd n size : Nat) (rows : List (List Nat)) (pad : Nat → Nat) (start : Nat) (li : List Nat) (rws : List (List Int)) : Prop where
 li0 : li[0]? = some (start * size)
 len : rws.length = li.length
 wide : ∀ r ∈ rws, r.length = wd
 ok : ∀ (k x : Nat) (r : List Int), li[k]? = some x → rws[k]? = some r → RowOk (fun x c => (enC pad (x % size) c).map (fun e => ((rows.getD (x / size) []).getD c 0) * size + e)) li x r
section
variable {wd n size start : Nat} {rows : List (List Nat)} {accs : List Bool} {pad : Nat → Nat} {li : List Nat} {rws : List (List Int)}
theorem rowX_at (h : Rgt wd n size rows pad start li rws) {i x : Nat} (hi : li[i]? = some x) {c : Nat} (hc : c < wd) :
  (enC pad (x % size) c = none ∧ ((rowsX wd li.length rws).getD i []).getD c 0 = li.length) ∨ ∃ e j, enC pad (x % size) c = some e ∧ ((rowsX wd li.length rws).getD i []).getD c 0 = j ∧ li[j]? = some (((rows.getD (x / size) []).getD c 0) * size + e) := by
 obtain ⟨hil, _⟩ := List.getElem?_eq_some_iff.1 hi
 have hir : i < rws.length := by rw [h.len]; exact hil
 have hr : rws[i]? = some rws[i] := List.getElem?_eq_getElem hir
 have hw := h.wide _ (List.getElem_mem hir)
 have e1 : (rowsX wd li.length rws).getD i [] = rws[i].map (fun e => (fixE li.length e).toNat) := by
  unfold rowsX
  rw [List.getD_eq_getElem?_getD, List.getElem?_append_left (by rw [List.length_map]; exact hir), List.getElem?_map, hr]
  rfl
 have e2 : ∀ v, rws[i][c]? = some v → ((rowsX wd li.length rws).getD i []).getD c 0 = (fixE li.length v).toNat := fun v hv => by
  rw [e1, List.getD_eq_getElem?_getD, List.getElem?_map, hv]
  rfl
 rcases h.ok i x _ hi hr c (by rw [hw]; exact hc) with ⟨h1, h2⟩ | ⟨t, j, h1, h2, h3⟩ <;> simp only at h1
 ·refine .inl ⟨?_, ?_⟩
  ·cases he : enC pad (x % size) c with
   | none => rfl
   | some e => rw [he] at h1; cases h1
  ·rw [e2 _ h2]
   simp [fixE]
 ·cases he : enC pad (x % size) c with
  | none => rw [he] at h1; cases h1
  | some e =>
   rw [he] at h1
   simp only [Option.map_some, Option.some.injEq] at h1
   refine .inr ⟨e, j, rfl, ?_, by rw [h1]; exact h3⟩
   rw [e2 _ h2]
   have : ¬ ((j : Int) < 0) := by omega
   simp [fixE, this]
theorem dead_at (h : Rgt wd n size rows pad start li rws) {c : Nat} (hc : c < wd) : ((rowsX wd li.length rws).getD li.length []).getD c 0 = li.length := by
 have e : (rowsX wd li.length rws).getD li.length [] = List.replicate wd li.length := by
  unfold rowsX
  rw [List.getD_eq_getElem?_getD, List.getElem?_append_right (by rw [List.length_map, h.len]; exact Nat.le_refl _), List.length_map, h.len, Nat.sub_self]
  rfl
 rw [e]
 simp [List.getD_eq_getElem?_getD, hc]
theorem rowsX_len (h : Rgt wd n size rows pad start li rws) : (rowsX wd li.length rws).length = li.length + 1 := by simp [rowsX, h.len]
theorem rgt_closed (h : Rgt wd n size rows pad start li rws) : Closed wd (rowsX wd li.length rws) (accsX accs size li) := by
 have hw : ∀ r ∈ rowsX wd li.length rws, r.length = wd := by
  intro r hr
  rcases List.mem_append.1 hr with hr | hr
  ·obtain ⟨r', hr', rfl⟩ := List.mem_map.1 hr
   rw [List.length_map, h.wide r' hr']
  ·rw [List.mem_singleton.1 hr]; simp
 refine ⟨by rw [rowsX_len h]; simp [accsX], hw, fun r hr q hq => ?_⟩
 rw [rowsX_len h]
 obtain ⟨i, hi, rfl⟩ := List.getElem_of_mem hr
 obtain ⟨c, hc, rfl⟩ := List.getElem_of_mem hq
 have hcw : c < wd := by rw [← hw _ (List.getElem_mem hi)]; exact hc
 have e : ((rowsX wd li.length rws).getD i []).getD c 0 = (rowsX wd li.length rws)[i][c] := by simp [List.getD_eq_getElem?_getD, hi, hc]
 rw [← e]
 rw [rowsX_len h] at hi
 rcases Nat.lt_or_ge i li.length with hil | hil
 ·rcases rowX_at h (List.getElem?_eq_getElem hil) hcw with ⟨_, h2⟩ | ⟨e, j, _, h2, h3⟩
  ·rw [h2]; omega
  ·rw [h2]
   have := (List.getElem?_eq_some_iff.1 h3).1
   omega
 ·have : i = li.length := by omega
  rw [this, dead_at h hcw]
  omega
theorem div_mod {a e size : Nat} (h : e < size) : (a * size + e) / size = a ∧ (a * size + e) % size = e := by
 refine ⟨?_, ?_⟩
 ·rw [Nat.mul_comm, Nat.mul_add_div (by omega), Nat.div_eq_of_lt h, Nat.add_zero]
 ·rw [Nat.mul_comm, Nat.mul_add_mod, Nat.mod_eq_of_lt h]
theorem rgt_same (h : Rgt wd n size rows pad start li rws) (hp : ∀ c, c < wd → pad c < size) (hs0 : 0 < size) : Same wd (mach (rowsX wd li.length rws) (accsX accs size li)) (right (mach rows accs) (okC pad) pad) 0 (some (start, 0)) := by
 have hd0 := div_mod (a := start) hs0
 rw [Nat.add_zero] at hd0
 refine Same.of (R := fun (i : Nat) (q : Option (Nat × Nat)) => (i = li.length ∧ q = none) ∨ ∃ x, li[i]? = some x ∧ q = some (x / size, x % size)) ?_ ?_ (.inr ⟨_, h.li0, by rw [hd0.1, hd0.2]⟩)
 ·rintro i q (⟨rfl, rfl⟩ | ⟨x, hx, rfl⟩)
  ·simp [mach, accsX, right]
  ·obtain ⟨hil, e⟩ := List.getElem?_eq_some_iff.1 hx
   show (accsX accs size li).getD i false = accs.getD (x / size) false
   unfold accsX
   rw [List.getD_eq_getElem?_getD, List.getElem?_append_left (by rw [List.length_map]; exact hil), List.getElem?_map, hx]
   rfl
 ·rintro i q (⟨rfl, rfl⟩ | ⟨x, hx, rfl⟩) c hc
  ·exact .inl ⟨dead_at h hc, rfl⟩
  ·rcases rowX_at h hx hc with ⟨h1, h2⟩ | ⟨e, j, h1, h2, h3⟩
   ·refine .inl ⟨h2, ?_⟩
    show (if okC pad (x % size) c then some ((mach rows accs).step (x / size) c, pad c) else none) = none
    unfold enC at h1
    split at h1
    ·cases h1
    ·rename_i h4
     rw [if_neg h4]
   ·refine .inr ⟨_, by show li[((rowsX wd li.length rws).getD i []).getD c 0]? = _; rw [h2]; exact h3, ?_⟩
    show (if okC pad (x % size) c then some ((mach rows accs).step (x / size) c, pad c) else none) = _
    unfold enC at h1
    split at h1
    ·rename_i h4
     obtain rfl := Option.some.inj h1
     have hdm := div_mod (a := (rows.getD (x / size) []).getD c 0) (hp c hc)
     rw [if_pos h4, hdm.1, hdm.2]
     rfl
    ·cases h1
end
/-! ### the tidy machine -/
def tidL (wd : Nat) (rows : List (List Nat)) (accs : List Bool) (start : Nat) (pad : Nat → Nat) : List Bool × List (List Nat) :=
 match bfs id (nxtP rows pad) (List.range wd) 0 (8 * rows.length + 2) 0 [((start : Int), (0 : Int))] [] with
 | some (some (lp, rp)) =>
  match classes rp (rp.length + 1) (first (lp.map (accP accs))) 0 with
  | some g =>
   match byClass wd rp g (oneOf g) 0 (rp.length + 2) with
   | some (some (l, rws)) => (l.map (fun a => (lp.map (accP accs)).getD (oneOf g a) false), rws)
   | _ => ([], [])
  | none => ([], [])
 | _ => ([], [])
structure Made (wd : Nat) (rows : List (List Nat)) (accs : List Bool) (start : Nat) (pad : Nat → Nat) (bs : List Bool) (rws : List (List Nat)) : Prop where
 is : ∃ lp rp g l, bfs id (nxtP rows pad) (List.range wd) 0 (8 * rows.length + 2) 0 [((start : Int), (0 : Int))] [] = some (some (lp, rp)) ∧ classes rp (rp.length + 1) (first (lp.map (accP accs))) 0 = some g ∧ byClass wd rp g (oneOf g) 0 (rp.length + 2) = some (some (l, rws)) ∧
  bs = l.map (fun a => (lp.map (accP accs)).getD (oneOf g a) false) ∧ Closed wd rp (lp.map (accP accs)) ∧ 0 < rp.length ∧ Same wd (mach rp (lp.map (accP accs))) (right (mach rows accs) (okC pad) pad) 0 (some (start, 0)) ∧ IsClasses wd rp (lp.map (accP accs)) g ∧ IsOne rp g (oneOf g) ∧ lp.length ≤ 8 * rows.length + 1
theorem made {wd : Nat} {rows : List (List Nat)} {accs : List Bool} {start : Nat} {pad : Nat → Nat} (hcl : Closed wd rows accs) (hst : start < rows.length) (hp : ∀ c, c < wd → pad c < 8) : Made wd rows accs start pad (tidL wd rows accs start pad).1 (tidL wd rows accs start pad).2 := by
 have hs0 : Met8 rows.length ((start : Int), (0 : Int)) := .inr ⟨start, 0, hst, by omega, rfl⟩
 have hnx : ∀ p c, Met8 rows.length p → c < wd → Met8 rows.length (nxtP rows pad p c) := fun p c h1 h2 => met8_next hcl hp h1 h2
 obtain ⟨r1, hr1⟩ := bfs_end (key := (id : Pl → Pl)) (nxt := nxtP rows pad) (cols := List.range wd) (limit := 0) (Q := Met8 rows.length) (U := ((0, -1) : Pl) :: (List.range (8 * rows.length)).map (fun x => (((x / 8 : Nat) : Int), ((x % 8 : Nat) : Int)))) (by
   rintro p (rfl | ⟨s, e, h1, h2, rfl⟩)
   ·exact List.mem_cons_self ..
   ·refine List.mem_cons_of_mem _ (List.mem_map.2 ⟨8 * s + e, List.mem_range.2 (by omega), ?_⟩)
    have h3 : (8 * s + e) / 8 = s := by omega
    have h4 : (8 * s + e) % 8 = e := by omega
    simp only [h3, h4, id])
  (fun p hq c hc => hnx p c hq (List.mem_range.1 hc)) (8 * rows.length + 2) 0 [((start : Int), (0 : Int))] [] (by simp) (Nat.zero_le _) (List.pairwise_singleton _ _) (fun x hx => by rw [List.mem_singleton.1 hx]; exact hs0)
 cases r1 with
 | none => exact absurd hr1 (bfs_zero _ _ _ _)
 | some q =>
 obtain ⟨lp, rp⟩ := q
 obtain ⟨hd, m, hm⟩ := bfs_done _ 0 [((start : Int), (0 : Int))] [] lp rp hr1 (Nat.zero_le _) rfl (List.pairwise_singleton _ _) (fun r hr => by cases hr) (fun i hi => by cases hi)
 have hcl2 : Closed wd rp (lp.map (accP accs)) := done_closed _ hd
 have hlp : 0 < lp.length := by rw [hm]; simp
 have hrp : 0 < rp.length := by rw [hd.len]; exact hlp
 have hlp0 : lp[0] = ((start : Int), (0 : Int)) := by
  have h : lp[0]? = some ((start : Int), (0 : Int)) := by rw [hm]; rfl
  rw [List.getElem?_eq_getElem hlp] at h
  exact Option.some.inj h
 have hsame : Same wd (mach rp (lp.map (accP accs))) (right (mach rows accs) (okC pad) pad) 0 (some (start, 0)) := by
  have h := done_same (A := plA rows accs pad) hd hlp
  rw [hlp0] at h
  exact h.trans (pl_same wd rows accs pad start)
 obtain ⟨g, hg⟩ := classes_end (rows := rp) (rp.length + 1) (first (lp.map (accP accs))) 0 (by omega) (.inl rfl)
 obtain ⟨hgl, L, hon⟩ := classes_onto _ _ _ _ hg
 have hic := classes_is hcl2 hrp hg
 have hone := isOne hgl hon
 obtain ⟨r3, hr3⟩ := bfs_end (key := (id : Nat → Nat)) (nxt := fun a c => g.getD ((rp.getD (oneOf g a) []).getD c 0) 0) (cols := List.range wd) (limit := 0) (Q := fun a => ∃ x, x < rp.length ∧ a = g.getD x 0) (U := List.range L) (by
   rintro a ⟨x, hx, rfl⟩
   exact List.mem_range.2 (hon.lt x hx))
  (by
   rintro a ⟨x, hx, rfl⟩ c hc
   exact ⟨_, hcl2.step (hone.lt x hx) (List.mem_range.1 hc), rfl⟩) (rp.length + 2) 0 [g.getD 0 0] [] (by have := hon.le_n; simp; omega) (Nat.zero_le _) (List.pairwise_singleton _ _) (fun x hx => by rw [List.mem_singleton.1 hx]; exact ⟨0, hrp, rfl⟩)
 cases r3 with
 | none => exact absurd hr3 (bfs_zero _ _ _ _)
 | some q =>
 obtain ⟨l, rws⟩ := q
 have hby : byClass wd rp g (oneOf g) 0 (rp.length + 2) = some (some (l, rws)) := hr3
 have he : tidL wd rows accs start pad = (l.map (fun a => (lp.map (accP accs)).getD (oneOf g a) false), rws) := by
  unfold tidL
  rw [hr1]
  simp only [hg, hby]
 rw [he]
 exact ⟨lp, rp, g, l, hr1, hg, hby, rfl, hcl2, hrp, hsame, hic, hone, places_len hr1 hs0 hnx⟩
theorem made_tidied {wd : Nat} {rows : List (List Nat)} {accs : List Bool} {start : Nat} {pad : Nat → Nat} {bs : List Bool} {rws : List (List Nat)} (h : Made wd rows accs start pad bs rws) : Tidied wd rows accs start pad bs rws := by
 obtain ⟨lp, rp, g, l, h1, h2, h3, h4, _⟩ := h.is
 exact ⟨_, lp, rp, _, g, _, l, h1, h2, h3, h4⟩
/-- The reference's way leads to the same machine. -/
theorem made_spec {wd n size : Nat} {rows : List (List Nat)} {accs : List Bool} {start : Nat} {pad : Nat → Nat} {bs : List Bool} {rws : List (List Nat)} (hm : Made wd rows accs start pad bs rws) {li : List Nat} {rw_ : List (List Int)} (h : Rgt wd n size rows pad start li rw_) (hp : ∀ c, c < wd → pad c < size) (hs0 : 0 < size) :
  ∃ f1 g f2 m, classes (rowsX wd li.length rw_) f1 (first (accsX accs size li)) 0 = some g ∧ byState wd (rowsX wd li.length rw_) g 0 f2 = some (some (m, rws)) ∧ m.map (fun q => (accsX accs size li).getD q false) = bs := by
 obtain ⟨lp, rp, g1, l, h1, h2, h3, rfl, c1, hrp, s1, k1, o1, _⟩ := hm.is
 have c2 := rgt_closed (accs := accs) h
 have hx0 : 0 < (rowsX wd li.length rw_).length := by rw [rowsX_len h]; omega
 obtain ⟨g2, hg2⟩ := classes_end (rows := rowsX wd li.length rw_) ((rowsX wd li.length rw_).length + 1) (first (accsX accs size li)) 0 (by omega) (.inl rfl)
 have k2 := classes_is c2 hx0 hg2
 obtain ⟨m, hm1, hm2⟩ := canon_eq c1 c2 k1 k2 o1 hrp hx0 (s1.trans (rgt_same h hp hs0).symm) h3
 exact ⟨_, g2, _, m, hg2, hm1, hm2.symm⟩
end Go.Proofs.YtbamnonamdpooaaDoor.Ti
namespace Go.Proofs.YtbamnonamdpooaaDoor.Pure
set_option linter.unusedVariables false
set_option linter.unusedSimpArgs false
open Go.RowKit Go.Proofs.YtbamnonamdpooaaDoorW.PrintWords
/-- A step of a loop whose body is told at 'k + 1'. -/
theorem ev_step {α : Type} {g f : Nat → Option α} {r : α} (h : ∀ k, g (k + 1) = f k) (k : Ev f r) : Ev g r := Ev.step h k
theorem ev_const {α : Type} {g : Nat → Option α} {r : α} (h : ∀ k, g (k + 1) = some r) : Ev g r := Ev.step h (Ev.now r)
/-- A step whose body calls. -/
theorem ev_call {α β : Type} {g : Nat → Option α} {c : Nat → Option β} {f : Nat → β → Option α} {b : β} {r : α} (hc : Ev c b) (h : Ev (fun k => f k b) r) (hg : ∀ k, g k = (c k).bind (f k)) : Ev g r :=
 Ev.congr hg (Ev.bind hc h)
theorem ev_some {α β : Type} {c : Option β} {g : Nat → Option α} {f : Nat → β → Option α} {b : β} {r : α} (hc : c = some b) (h : Ev (fun k => f k b) r) (hg : ∀ k, g k = c.bind (f k)) : Ev g r :=
 Ev.congr (fun k => by rw [hg k, hc]; rfl) h
theorem ev_ift {α : Type} {c : Prop} [Decidable c] {x y : Nat → Option α} {r : α} (hc : c) (h : Ev x r) : Ev (fun k => if c then x k else y k) r := Ev.congr (fun _ => if_pos hc) h
theorem ev_iff {α : Type} {c : Prop} [Decidable c] {x y : Nat → Option α} {r : α} (hc : ¬ c) (h : Ev y r) : Ev (fun k => if c then x k else y k) r := Ev.congr (fun _ => if_neg hc) h
/-- A loop over an index from 0 on. -/
theorem ev_up {σ ρ : Type} (l : Nat → Int → σ → Option ρ) (n : Nat) (s : Nat → σ) (r : ρ) (hend : Ev (fun k => l k (n : Int) (s n)) r)
  (hstep : ∀ i, i < n → Ev (fun k => l k ((i : Int) + 1) (s (i + 1))) r → Ev (fun k => l k (i : Int) (s i)) r) : Ev (fun k => l k 0 (s 0)) r := by
 have key : ∀ d i, d + i = n → Ev (fun k => l k (i : Int) (s i)) r := by
  intro d
  induction d with
  | zero => intro i hi; obtain rfl : i = n := (by omega); exact hend
  | succ d ih =>
   intro i hi
   exact hstep i (by omega) (by have := ih (i + 1) (by omega); simpa using this)
 exact key n 0 (by omega)
/-- A loop that copies an element a round. -/
theorem ev_copy {α : Type} (l : Nat → List α → Int → Option (List α)) (xs : List α) (z : α)
  (hend : ∀ ys, ys.length = xs.length → Ev (fun k => l k ys (xs.length : Int)) ys)
  (hstep : ∀ (i : Nat) (hi : i < xs.length) (ys : List α) (r : List α), ys.length = xs.length → Ev (fun k => l k (ys.set i xs[i]) ((i : Int) + 1)) r → Ev (fun k => l k ys (i : Int)) r) :
  Ev (fun k => l k (List.replicate xs.length z) 0) xs := by
 have hs : ∀ i, i < xs.length → (xs.take i ++ List.replicate (xs.length - i) z).set i (xs.getD i z) = xs.take (i + 1) ++ List.replicate (xs.length - (i + 1)) z := by
  intro i hi
  have e : xs.length - i = (xs.length - (i + 1)) + 1 := by omega
  have ht : (xs.take i).length = i := by simp; omega
  rw [e, List.replicate_succ, List.set_append_right _ _ (by omega), ht, Nat.sub_self, List.set_cons_zero]
  have eg : xs.getD i z = xs[i] := by simp [List.getD, List.getElem?_eq_getElem hi]
  rw [eg, List.take_succ_eq_append_getElem hi, List.append_assoc]
  rfl
 have := ev_up (fun k i ys => l k ys i) xs.length (fun i => xs.take i ++ List.replicate (xs.length - i) z) xs (by
   have := hend (xs.take xs.length ++ List.replicate (xs.length - xs.length) z) (by simp)
   simpa using this)
  (fun i hi h => hstep i hi _ _ (by simp; omega) (by
   have e := hs i hi
   have eg : xs.getD i z = xs[i] := by simp [List.getD, List.getElem?_eq_getElem hi]
   rw [eg] at e
   rw [e]
   exact h))
 simpa using this
/-- A loop that looks whether all indices pass. -/
theorem ev_all (l : Nat → Int → Option Bool) (n : Nat) (p : Nat → Bool) (hend : Ev (fun k => l k (n : Int)) true)
  (hyes : ∀ i, i < n → p i = true → ∀ r, Ev (fun k => l k ((i : Int) + 1)) r → Ev (fun k => l k (i : Int)) r)
  (hno : ∀ i, i < n → p i = false → Ev (fun k => l k (i : Int)) false) : Ev (fun k => l k 0) ((List.range n).all p) := by
 have key : ∀ d i, d + i = n → Ev (fun k => l k (i : Int)) ((List.range' i d).all p) := by
  intro d
  induction d with
  | zero => intro i hi; obtain rfl : i = n := (by omega); exact hend
  | succ d ih =>
   intro i hi
   rw [List.range'_succ, List.all_cons]
   cases hp : p i with
   | false => exact hno i (by omega) hp
   | true => rw [Bool.true_and]; exact hyes i (by omega) hp _ (by have := ih (i + 1) (by omega); simpa using this)
 have := key n 0 (by omega)
 rw [← List.range_eq_range'] at this
 exact this
theorem wrap_up {i : Nat} (h : i < 9223372036854775807) : wrap64 ((i : Int) + 1) = (i : Int) + 1 := by unfold wrap64; omega
theorem wrap_id {i : Int} (h0 : -9223372036854775808 ≤ i) (h : i ≤ 9223372036854775807) : wrap64 i = i := by unfold wrap64; omega
theorem rd_nat (xs : List Int) (i : Nat) (h : i < xs.length) : rd xs (i : Int) = xs[i] := by
 unfold rd; simp [List.getD, List.getElem?_eq_getElem h]
theorem rdOf_nat {α : Type} (d : α) (xs : List α) (i : Nat) (h : i < xs.length) : rdOf d xs (i : Int) = xs[i] := by
 unfold rdOf; simp [List.getD, List.getElem?_eq_getElem h]
theorem getD_nat {α : Type} (xs : List α) (d : α) (i : Nat) (h : i < xs.length) : xs.getD ((i : Int).toNat) d = xs[i] := by
 simp [List.getD, List.getElem?_eq_getElem h]
end Go.Proofs.YtbamnonamdpooaaDoor.Pure
namespace Go.Proofs.YtbamnonamdpooaaDoor.PB1
open Go.RowKit Go.Proofs.YtbamnonamdpooaaDoorW.PrintWords Go.Proofs.YtbamnonamdpooaaDoorW.PrintLast Go.Proofs.YtbamnonamdpooaaDoorW.PrintMore
attribute [local go_sem] max2_int min2_int max_two min_two max_three min_three max_four min_four   -- for this text's walks alone
set_option linter.unusedVariables false
set_option linter.unusedSimpArgs false
def errW : Option Int → Value
 | none => .nilIface
 | some c => .iface 0 (.int .i64 c)
theorem errW_none : errW none = .nilIface := rfl
theorem errW_some (c : Int) : errW (some c) = .iface 0 (.int .i64 c) := rfl
theorem info2 : (Tryd.prog.info? 2).map (fun i => (i.zero, i.size, i.bytes)) = some (some (.int .i64 0), 1, 8) := by kernel_rfl
theorem info3 : (Tryd.prog.info? 3).map (fun i => (i.zero, i.size, i.bytes)) = some (some (.int .i64 0), 1, 8) := by kernel_rfl
def rd_L1 (xs : List (List Int)) (i : Int) : (List Int) := xs.getD i.toNat ([] : List Int)
theorem at_L1 {w : World} {A : Option Addr} {n : Nat} {xs : List (List Int)} (h : Kd.C (Kd.slice 2 (Kd.int .i64)) w A n xs) (i : Int) (h0 : 0 ≤ i) (h1 : i < n) : ∃ ad A0 c0, A = some ad ∧ w.cell? (ad.add i.toNat) = some (.slice A0 (rd_L1 xs i).length c0) ∧ (rd_L1 xs i).length ≤ c0 ∧ (Kd.int .i64).C w A0 (rd_L1 xs i).length (rd_L1 xs i) := by
 obtain ⟨ad, c, e, _, hK, hc0⟩ := Kd.C_get h ([] : List Int) i h0 h1
 have hc : ∀ j u, c[j]? = some u → w.cell? (ad.add (i.toNat * 1 + j)) = some u := hc0
 obtain ⟨A0, c0, rfl, l0, g0⟩ := hK
 exact ⟨ad, A0, c0, e, by have hq := hc 0 _ rfl; rwa [Nat.mul_one, Nat.add_zero] at hq, l0, g0⟩
end Go.Proofs.YtbamnonamdpooaaDoor.PB1
namespace Go.Proofs.YtbamnonamdpooaaDoor.PB1
open Go.RowKit Go.Proofs.YtbamnonamdpooaaDoorW.PrintWords Go.Proofs.YtbamnonamdpooaaDoorW.PrintLast Go.Proofs.YtbamnonamdpooaaDoorW.PrintMore
attribute [local go_sem] max2_int min2_int max_two min_two max_three min_three max_four min_four   -- for this text's walks alone
set_option linter.unusedVariables false
set_option linter.unusedSimpArgs false
/-! ### impl_powerOf: function 163 -/
def impl_powerOf.l0 : Nat → Int → Int → Option (Int)
 | 0, _, _ => none
 | k + 1, x0, x3 => if x0 > 0 then (impl_powerOf.l0 k (wrap64 (x0 - 1)) (wrap64 (x3 * 3))) else (some x3)
def impl_powerOf.f (k : Nat) (a0 : Int) : Option (Int) := impl_powerOf.l0 k a0 1
theorem impl_powerOf.mono_l : ∀ k, (∀ y0 y1, LeO (impl_powerOf.l0 k y0 y1) (impl_powerOf.l0 (k + 1) y0 y1))
 | 0 => fun _ _ r h => by simp [impl_powerOf.l0] at h
 | k + 1 => by
  have ih0 := impl_powerOf.mono_l k
  ·intro y0 y1
   unfold impl_powerOf.l0
   repeat' first
   | (with_reducible exact ih0 _ _)
   | (with_reducible exact LeO.refl _)
   | (with_reducible exact LeO.none _)
   | (with_reducible refine LeO.ite ?_ ?_)
   | (with_reducible refine LeO.bind ?_ (fun _ => ?_))
   | exact ih0 _ _
   | exact LeO.none _
   | refine LeO.ite ?_ ?_
   | refine LeO.bind ?_ (fun _ => ?_)
theorem impl_powerOf.mono : ∀ a0 k, LeO (impl_powerOf.f k a0) (impl_powerOf.f (k + 1) a0) := by
 intro a0 k
 have ih0 := impl_powerOf.mono_l k
 unfold impl_powerOf.f
 repeat' first
   | (with_reducible exact ih0 _ _)
   | (with_reducible exact LeO.refl _)
   | (with_reducible exact LeO.none _)
   | (with_reducible refine LeO.ite ?_ ?_)
   | (with_reducible refine LeO.bind ?_ (fun _ => ?_))
   | exact ih0 _ _
   | exact LeO.none _
   | refine LeO.ite ?_ ?_
   | refine LeO.bind ?_ (fun _ => ?_)
set_option maxHeartbeats 8000000 in
set_option maxRecDepth 100000 in
theorem impl_powerOf.calls (k : Nat) (a0 : Int) (r : Int) (w : World) (h : impl_powerOf.f k a0 = some r) :
  Calls Tryd.prog 163 #[.int .i64 a0] w fun e w' => e = .returned (.int .i64 r) ∧ Drawn0 w w' := by
 have H : (impl_powerOf.l0 k a0 1) = some r := h
 clear h
 have H' := Aside0.mk H
 clear H
 go_enter Tryd.func163, Tryd.ntmps163
 go_wp2
 go_loopg [0, 3] k (fun kq v0 v3 w' => ∃ (x0_1 : Int) (x3_1 : Int), v0 = .int .i64 x0_1 ∧ v3 = .int .i64 x3_1 ∧ Aside0 (impl_powerOf.l0 kq x0_1 x3_1 = some r) ∧ Aside0 (kq ≤ k) ∧ Drawn0 w w')
 case atStart => exact ⟨(a0), (1), (by first | rfl | (simp; done) | (simp [*]; done) | (simp [wrap64]; done)), (by first | rfl | (simp; done) | (simp [*]; done) | (simp [wrap64]; done)), H', ⟨Nat.le_refl _⟩, by repeat (first | exact Drawn0.refl _ | apply Drawn0.step)⟩
 case round =>
  clear H'
  try clear c1
  obtain ⟨x0_1, x3_1, rfl, rfl, HA, HK1, ⟨m1, rfl⟩⟩ := hrel
  cases gk with
  | zero => exact absurd HA.out (by simp [impl_powerOf.l0])
  | succ k1 =>
   have H := HA.out
   clear HA
   simp only [impl_powerOf.l0] at H
   by_cases c2 : x0_1 > 0
   ·rw [if_pos c2] at H
    have c2b0 : decide (0 < x0_1) = true := decide_eq_true c2
    clear c2
    have H' := Aside0.mk H
    clear H
    go_wp2
    go_roundg k1
    case measure => have := HK1.out; omega
    case rel => exact ⟨(wrap64 (x0_1 - 1)), (wrap64 (x3_1 * 3)), (by first | rfl | (simp; done) | (simp [*]; done) | (simp [wrap64]; done)), (by first | rfl | (simp; done) | (simp [*]; done) | (simp [wrap64]; done)), H', ⟨by have := HK1.out; omega⟩, by repeat (first | exact Drawn0.refl _ | apply Drawn0.step)⟩
   ·rw [if_neg c2] at H
    have c2b0 : decide (0 < x0_1) = false := decide_eq_false c2
    clear c2
    obtain rfl := Option.some.inj H
    simp only [Option.some.injEq, Prod.mk.injEq] at H
    obtain ⟨rfl⟩ := H
    go_wp2
    go_ret
    exact ⟨by first | rfl | (simp; done) | (simp [*]; done) | (simp [wrap64]; done), by repeat (first | exact Drawn0.refl _ | apply Drawn0.step)⟩
/-! ### impl_widthOf: function 124 -/
def impl_widthOf.f (k : Nat) (a0 : Int) : Option (Int) := (impl_powerOf.f k a0).bind fun t101 => (some (wrap64 (t101 - 1)))
theorem impl_widthOf.mono : ∀ a0 k, LeO (impl_widthOf.f k a0) (impl_widthOf.f (k + 1) a0) := by
 intro a0 k
 unfold impl_widthOf.f
 repeat' first
   | (with_reducible exact impl_powerOf.mono _ _)
   | (with_reducible exact LeO.refl _)
   | (with_reducible exact LeO.none _)
   | (with_reducible refine LeO.ite ?_ ?_)
   | (with_reducible refine LeO.bind ?_ (fun _ => ?_))
   | exact impl_powerOf.mono _ _
   | exact LeO.none _
   | refine LeO.ite ?_ ?_
   | refine LeO.bind ?_ (fun _ => ?_)
set_option maxHeartbeats 8000000 in
set_option maxRecDepth 100000 in
theorem impl_widthOf.calls (k : Nat) (a0 : Int) (r : Int) (w : World) (h : impl_widthOf.f k a0 = some r) :
  Calls Tryd.prog 124 #[.int .i64 a0] w fun e w' => e = .returned (.int .i64 r) ∧ Drawn0 w w' := by
 have H : ((impl_powerOf.f k a0).bind fun t101 => (some (wrap64 (t101 - 1)))) = some r := h
 clear h
 replace H := Option.bind_eq_some_iff.mp H
 obtain ⟨t101, A20, H⟩ := H
 replace H : (some (wrap64 (t101 - 1))) = some r := H
 have A2 := Aside0.mk A20
 clear A20
 obtain rfl := Option.some.inj H
 simp only [Option.some.injEq, Prod.mk.injEq] at H
 obtain ⟨rfl⟩ := H
 go_enter Tryd.func124, Tryd.ntmps124
 go_wp2_with (first | ((with_reducible refine gate_callee (f := 163) rfl ?_); refine goesL_ (some 4) rfl rfl Tryd.func163 (by kernel_rfl) rfl #[.int .i64 a0] rfl (by (try simp only [List.map_toArray, List.map_cons, List.map_nil]); first | done | rfl | (simp only [List.length_drop, List.length_take]; rfl)) ?_; (with_reducible refine (impl_powerOf.calls k a0 t101 _ A2.out).mono ?_); rintro e w' ⟨rfl, ⟨nd, rfl⟩⟩; refine ⟨_, rfl, ?_⟩))
 go_ret
 exact ⟨by first | rfl | (simp; done) | (simp [*]; done) | (simp [wrap64]; done), by repeat (first | exact Drawn0.refl _ | apply Drawn0.step)⟩
/-! ### impl_digitsOf: function 69 -/
def impl_digitsOf.l0 : Nat → Int → Int → List Int → Option (List Int)
 | 0, _, _, _ => none
 | k + 1, x0, x1, x5 => if x0 > 0 then (if x5.length < 17592186044416 then (impl_digitsOf.l0 k (wrap64 (x0 - 1)) (wrap64 (Int.tdiv x1 3)) (x5 ++ [Int.tmod x1 3])) else (none)) else (some x5)
def impl_digitsOf.f (k : Nat) (a0 : Int) (a1 : Int) : Option (List Int) := impl_digitsOf.l0 k a0 a1 ([] : List Int)
theorem impl_digitsOf.mono_l : ∀ k, (∀ y0 y1 y2, LeO (impl_digitsOf.l0 k y0 y1 y2) (impl_digitsOf.l0 (k + 1) y0 y1 y2))
 | 0 => fun _ _ _ r h => by simp [impl_digitsOf.l0] at h
 | k + 1 => by
  have ih0 := impl_digitsOf.mono_l k
  ·intro y0 y1 y2
   unfold impl_digitsOf.l0
   repeat' first
   | (with_reducible exact ih0 _ _ _)
   | (with_reducible exact LeO.refl _)
   | (with_reducible exact LeO.none _)
   | (with_reducible refine LeO.ite ?_ ?_)
   | (with_reducible refine LeO.bind ?_ (fun _ => ?_))
   | exact ih0 _ _ _
   | exact LeO.none _
   | refine LeO.ite ?_ ?_
   | refine LeO.bind ?_ (fun _ => ?_)
theorem impl_digitsOf.mono : ∀ a0 a1 k, LeO (impl_digitsOf.f k a0 a1) (impl_digitsOf.f (k + 1) a0 a1) := by
 intro a0 a1 k
 have ih0 := impl_digitsOf.mono_l k
 unfold impl_digitsOf.f
 repeat' first
   | (with_reducible exact ih0 _ _ _)
   | (with_reducible exact LeO.refl _)
   | (with_reducible exact LeO.none _)
   | (with_reducible refine LeO.ite ?_ ?_)
   | (with_reducible refine LeO.bind ?_ (fun _ => ?_))
   | exact ih0 _ _ _
   | exact LeO.none _
   | refine LeO.ite ?_ ?_
   | refine LeO.bind ?_ (fun _ => ?_)
set_option maxHeartbeats 8000000 in
set_option maxRecDepth 100000 in
theorem impl_digitsOf.calls (k : Nat) (a0 : Int) (a1 : Int) (r : List Int) (w : World) (h : impl_digitsOf.f k a0 a1 = some r) :
  Calls Tryd.prog 69 #[.int .i64 a0, .int .i64 a1] w fun e w' => ∃ v0_ : Value, e = .returned (v0_) ∧ Kd.R (Kd.int .i64) 3 w' w.heap.size (fun _ => True) v0_ r ∧ Below w.heap.size w w' := by
 have HB := Aside0.mk (Below.refl w.heap.size w)
 have H : (impl_digitsOf.l0 k a0 a1 ([] : List Int)) = some r := h
 clear h
 have H' := Aside0.mk H
 clear H
 go_enter Tryd.func69, Tryd.ntmps69
 go_wp2
 go_loopg [0, 1, 5] k (fun kq v0 v1 v5 w' => ∃ (x0_1 : Int) (x1_1 : Int) (x5_1 : List Int), v0 = .int .i64 x0_1 ∧ v1 = .int .i64 x1_1 ∧ Aside0 (impl_digitsOf.l0 kq x0_1 x1_1 x5_1 = some r) ∧ Aside0 (kq ≤ k) ∧ Aside0 (Kd.R (Kd.int .i64) 3 w' w.heap.size (fun _ => True) v5 x5_1) ∧ Aside0 (Below w.heap.size w w'))
 case atStart => exact ⟨(a0), (a1), (([] : List Int)), (by first | rfl | (simp; done) | (simp [*]; done) | (simp [wrap64]; done)), (by first | rfl | (simp; done) | (simp [*]; done) | (simp [wrap64]; done)), H', ⟨Nat.le_refl _⟩, ⟨by first | exact Kd.R_nil _ _ _ _ _ | exact Kd.N_nil _ _ _ _ _ | exact Kd.V_nil _ _ _ _ _ | exact Kd.Q_nil _ _ _ _ _ | exact Kd.S_nil _ _ _ _ _⟩, ⟨by repeat (first | (with_reducible first | exact HB.out | apply below_alloc | apply pw_below_drewN | apply below_drew1) | exact HB.out)⟩⟩
 case round =>
  clear H'
  try clear p2
  obtain ⟨x0_1, x1_1, x5_1, rfl, rfl, HA, HK1, HO_5, HB⟩ := hrel
  cases gk with
  | zero => exact absurd HA.out (by simp [impl_digitsOf.l0])
  | succ k1 =>
   have H := HA.out
   clear HA
   simp only [impl_digitsOf.l0] at H
   by_cases c3 : x0_1 > 0
   ·rw [if_pos c3] at H
    have c3b0 : decide (0 < x0_1) = true := decide_eq_true c3
    clear c3
    by_cases c4 : x5_1.length < 17592186044416
    ·rw [if_pos c4] at H
     have LMc4 := Aside0.mk c4
     clear c4
     obtain ⟨y102, hy102⟩ : ∃ y_ : List Int, y_ = (x5_1 ++ [Int.tmod x1_1 3]) := ⟨_, rfl⟩
     replace H : (impl_digitsOf.l0 k1 (wrap64 (x0_1 - 1)) (wrap64 (Int.tdiv x1_1 3)) y102) = some r := by first | (rw [hy102]; with_reducible exact H) | (have H2_ := (Option.bind_some _ _).symm.trans H; rw [hy102]; with_reducible exact H2_) | (have H2_ := (Option.bind_some _ _).symm.trans H; with_reducible exact H2_) | with_reducible exact H | (rw [hy102]; exact H) | exact H
     have Ny102 := Aside0.mk hy102
     clear hy102
     have H' := Aside0.mk H
     clear H
     go_wp2_with (first | ((with_reducible refine gate_builtin (b := .append) (xs := #[.tmp 10, .tmp 13]) rfl ?_); at_builtin; refine Kd.R_append (Kd.int .i64) (w0 := w) w.heap.size rfl (.tmp 10) (.tmp 13) 97 3 (.int .i64 0) 8 rfl Tryd.underlying97 info3 rfl (by decide) (by omega) u5 x5_1 (Int.tmod x1_1 3) [.int .i64 (Int.tmod x1_1 3)] (fun _ => True) (fun _ => False) rfl rfl ?aP (fun _ hk => hk.elim) ?aF ?aO ?aB ?aS ?aL ?_; (case aP => exact rfl); (case aB => exact (by repeat (first | (with_reducible first | exact HB.out | apply below_alloc | apply pw_below_drewN | apply below_drew1) | exact HB.out))); (case aF => exact (fun _ _ => trivial)); (case aO => exact (by (with_reducible repeat (first | apply Kd.R_alloc | apply Kd.R_drewN | apply Kd.R_drew)); exact HO_5.out)); (case aS => exact (below_size (by repeat (first | (with_reducible first | exact HB.out | apply below_alloc | apply pw_below_drewN | apply below_drew1) | exact HB.out)))); (case aL => have := LMc4.out; omega); intro v103 w5 ho hb hg hat; rw [← Ny102.out] at ho; have n0_ := Aside0.mk (hb); have n1_ := Aside0.mk (ho); clear HB; clear HO_5; have HB := n0_; have HO104 := n1_; clear n0_ n1_; clear ho hb hg hat))
     go_roundg k1
     case measure => have := HK1.out; omega
     case rel => exact ⟨(wrap64 (x0_1 - 1)), (wrap64 (Int.tdiv x1_1 3)), (y102), (by first | rfl | (simp; done) | (simp [*]; done) | (simp [wrap64]; done)), (by first | rfl | (simp; done) | (simp [*]; done) | (simp [wrap64]; done)), H', ⟨by have := HK1.out; omega⟩, ⟨by (with_reducible repeat (first | apply Kd.R_alloc | apply Kd.R_drewN | apply Kd.R_drew)); exact HO104.out⟩, ⟨by repeat (first | (with_reducible first | exact HB.out | apply below_alloc | apply pw_below_drewN | apply below_drew1) | exact HB.out)⟩⟩
    ·rw [if_neg c4] at H
     exact absurd H (by simp)
   ·rw [if_neg c3] at H
    have c3b0 : decide (0 < x0_1) = false := decide_eq_false c3
    clear c3
    obtain rfl := Option.some.inj H
    simp only [Option.some.injEq, Prod.mk.injEq] at H
    obtain ⟨rfl⟩ := H
    go_wp2
    go_ret
    exact ⟨_, by first | rfl | (simp [errW_none, errW_some] <;> rfl) | (simp [*, errW_none, errW_some] <;> rfl), by (with_reducible repeat (first | apply Kd.R_alloc | apply Kd.R_drewN | apply Kd.R_drew)); exact HO_5.out, by repeat (first | (with_reducible first | exact HB.out | apply below_alloc | apply pw_below_drewN | apply below_drew1) | exact HB.out)⟩
/-! ### spec_l01Power: function 120 -/
def spec_l01Power.l0 : Nat → Int → Int → Option (Int)
 | 0, _, _ => none
 | k + 1, x0, x3 => if x0 > 0 then (spec_l01Power.l0 k (wrap64 (x0 - 1)) (wrap64 (3 * x3))) else (some x3)
def spec_l01Power.f (k : Nat) (a0 : Int) : Option (Int) := spec_l01Power.l0 k a0 1
theorem spec_l01Power.mono_l : ∀ k, (∀ y0 y1, LeO (spec_l01Power.l0 k y0 y1) (spec_l01Power.l0 (k + 1) y0 y1))
 | 0 => fun _ _ r h => by simp [spec_l01Power.l0] at h
 | k + 1 => by
  have ih0 := spec_l01Power.mono_l k
  ·intro y0 y1
   unfold spec_l01Power.l0
   repeat' first
   | (with_reducible exact ih0 _ _)
   | (with_reducible exact LeO.refl _)
   | (with_reducible exact LeO.none _)
   | (with_reducible refine LeO.ite ?_ ?_)
   | (with_reducible refine LeO.bind ?_ (fun _ => ?_))
   | exact ih0 _ _
   | exact LeO.none _
   | refine LeO.ite ?_ ?_
   | refine LeO.bind ?_ (fun _ => ?_)
theorem spec_l01Power.mono : ∀ a0 k, LeO (spec_l01Power.f k a0) (spec_l01Power.f (k + 1) a0) := by
 intro a0 k
 have ih0 := spec_l01Power.mono_l k
 unfold spec_l01Power.f
 repeat' first
   | (with_reducible exact ih0 _ _)
   | (with_reducible exact LeO.refl _)
   | (with_reducible exact LeO.none _)
   | (with_reducible refine LeO.ite ?_ ?_)
   | (with_reducible refine LeO.bind ?_ (fun _ => ?_))
   | exact ih0 _ _
   | exact LeO.none _
   | refine LeO.ite ?_ ?_
   | refine LeO.bind ?_ (fun _ => ?_)
set_option maxHeartbeats 8000000 in
set_option maxRecDepth 100000 in
theorem spec_l01Power.calls (k : Nat) (a0 : Int) (r : Int) (w : World) (h : spec_l01Power.f k a0 = some r) :
  Calls Tryd.prog 120 #[.int .i64 a0] w fun e w' => e = .returned (.int .i64 r) ∧ Drawn0 w w' := by
 have H : (spec_l01Power.l0 k a0 1) = some r := h
 clear h
 have H' := Aside0.mk H
 clear H
 go_enter Tryd.func120, Tryd.ntmps120
 go_wp2
 go_loopg [0, 3] k (fun kq v0 v3 w' => ∃ (x0_1 : Int) (x3_1 : Int), v0 = .int .i64 x0_1 ∧ v3 = .int .i64 x3_1 ∧ Aside0 (spec_l01Power.l0 kq x0_1 x3_1 = some r) ∧ Aside0 (kq ≤ k) ∧ Drawn0 w w')
 case atStart => exact ⟨(a0), (1), (by first | rfl | (simp; done) | (simp [*]; done) | (simp [wrap64]; done)), (by first | rfl | (simp; done) | (simp [*]; done) | (simp [wrap64]; done)), H', ⟨Nat.le_refl _⟩, by repeat (first | exact Drawn0.refl _ | apply Drawn0.step)⟩
 case round =>
  clear H'
  try clear c1
  obtain ⟨x0_1, x3_1, rfl, rfl, HA, HK1, ⟨m1, rfl⟩⟩ := hrel
  cases gk with
  | zero => exact absurd HA.out (by simp [spec_l01Power.l0])
  | succ k1 =>
   have H := HA.out
   clear HA
   simp only [spec_l01Power.l0] at H
   by_cases c2 : x0_1 > 0
   ·rw [if_pos c2] at H
    have c2b0 : decide (0 < x0_1) = true := decide_eq_true c2
    clear c2
    have H' := Aside0.mk H
    clear H
    go_wp2
    go_roundg k1
    case measure => have := HK1.out; omega
    case rel => exact ⟨(wrap64 (x0_1 - 1)), (wrap64 (3 * x3_1)), (by first | rfl | (simp; done) | (simp [*]; done) | (simp [wrap64]; done)), (by first | rfl | (simp; done) | (simp [*]; done) | (simp [wrap64]; done)), H', ⟨by have := HK1.out; omega⟩, by repeat (first | exact Drawn0.refl _ | apply Drawn0.step)⟩
   ·rw [if_neg c2] at H
    have c2b0 : decide (0 < x0_1) = false := decide_eq_false c2
    clear c2
    obtain rfl := Option.some.inj H
    simp only [Option.some.injEq, Prod.mk.injEq] at H
    obtain ⟨rfl⟩ := H
    go_wp2
    go_ret
    exact ⟨by first | rfl | (simp; done) | (simp [*]; done) | (simp [wrap64]; done), by repeat (first | exact Drawn0.refl _ | apply Drawn0.step)⟩
/-! ### spec_l01Wide: function 60 -/
def spec_l01Wide.f (k : Nat) (a0 : Int) : Option (Int) := (spec_l01Power.f k a0).bind fun t105 => (some (wrap64 (t105 - 1)))
theorem spec_l01Wide.mono : ∀ a0 k, LeO (spec_l01Wide.f k a0) (spec_l01Wide.f (k + 1) a0) := by
 intro a0 k
 unfold spec_l01Wide.f
 repeat' first
   | (with_reducible exact spec_l01Power.mono _ _)
   | (with_reducible exact LeO.refl _)
   | (with_reducible exact LeO.none _)
   | (with_reducible refine LeO.ite ?_ ?_)
   | (with_reducible refine LeO.bind ?_ (fun _ => ?_))
   | exact spec_l01Power.mono _ _
   | exact LeO.none _
   | refine LeO.ite ?_ ?_
   | refine LeO.bind ?_ (fun _ => ?_)
set_option maxHeartbeats 8000000 in
set_option maxRecDepth 100000 in
theorem spec_l01Wide.calls (k : Nat) (a0 : Int) (r : Int) (w : World) (h : spec_l01Wide.f k a0 = some r) :
  Calls Tryd.prog 60 #[.int .i64 a0] w fun e w' => e = .returned (.int .i64 r) ∧ Drawn0 w w' := by
 have H : ((spec_l01Power.f k a0).bind fun t105 => (some (wrap64 (t105 - 1)))) = some r := h
 clear h
 replace H := Option.bind_eq_some_iff.mp H
 obtain ⟨t105, A20, H⟩ := H
 replace H : (some (wrap64 (t105 - 1))) = some r := H
 have A2 := Aside0.mk A20
 clear A20
 obtain rfl := Option.some.inj H
 simp only [Option.some.injEq, Prod.mk.injEq] at H
 obtain ⟨rfl⟩ := H
 go_enter Tryd.func60, Tryd.ntmps60
 go_wp2_with (first | ((with_reducible refine gate_callee (f := 120) rfl ?_); refine goesL_ (some 4) rfl rfl Tryd.func120 (by kernel_rfl) rfl #[.int .i64 a0] rfl (by (try simp only [List.map_toArray, List.map_cons, List.map_nil]); first | done | rfl | (simp only [List.length_drop, List.length_take]; rfl)) ?_; (with_reducible refine (spec_l01Power.calls k a0 t105 _ A2.out).mono ?_); rintro e w' ⟨rfl, ⟨nd, rfl⟩⟩; refine ⟨_, rfl, ?_⟩))
 go_ret
 exact ⟨by first | rfl | (simp; done) | (simp [*]; done) | (simp [wrap64]; done), by repeat (first | exact Drawn0.refl _ | apply Drawn0.step)⟩
/-! ### spec_l01Digit: function 61 -/
def spec_l01Digit.f (k : Nat) (a0 : Int) (a1 : Int) : Option (Int) := (spec_l01Power.f k a1).bind fun t106 => (if t106 = 0 then (none) else (some (Int.tmod (wrap64 (Int.tdiv a0 t106)) 3)))
theorem spec_l01Digit.mono : ∀ a0 a1 k, LeO (spec_l01Digit.f k a0 a1) (spec_l01Digit.f (k + 1) a0 a1) := by
 intro a0 a1 k
 unfold spec_l01Digit.f
 repeat' first
   | (with_reducible exact spec_l01Power.mono _ _)
   | (with_reducible exact LeO.refl _)
   | (with_reducible exact LeO.none _)
   | (with_reducible refine LeO.ite ?_ ?_)
   | (with_reducible refine LeO.bind ?_ (fun _ => ?_))
   | exact spec_l01Power.mono _ _
   | exact LeO.none _
   | refine LeO.ite ?_ ?_
   | refine LeO.bind ?_ (fun _ => ?_)
set_option maxHeartbeats 8000000 in
set_option maxRecDepth 100000 in
theorem spec_l01Digit.calls (k : Nat) (a0 : Int) (a1 : Int) (r : Int) (w : World) (h : spec_l01Digit.f k a0 a1 = some r) :
  Calls Tryd.prog 61 #[.int .i64 a0, .int .i64 a1] w fun e w' => e = .returned (.int .i64 r) ∧ Drawn0 w w' := by
 have H : ((spec_l01Power.f k a1).bind fun t106 => (if t106 = 0 then (none) else (some (Int.tmod (wrap64 (Int.tdiv a0 t106)) 3)))) = some r := h
 clear h
 replace H := Option.bind_eq_some_iff.mp H
 obtain ⟨t106, A30, H⟩ := H
 replace H : (if t106 = 0 then (none) else (some (Int.tmod (wrap64 (Int.tdiv a0 t106)) 3))) = some r := H
 have A3 := Aside0.mk A30
 clear A30
 by_cases c4 : t106 = 0
 ·rw [if_pos c4] at H
  exact absurd H (by simp)
 ·rw [if_neg c4] at H
  have c4b0 : (t106 == 0) = false := beq_eq_false_iff_ne.mpr c4
  have c4b1 : (t106 != 0) = true := bne_iff_ne.mpr c4
  obtain rfl := Option.some.inj H
  simp only [Option.some.injEq, Prod.mk.injEq] at H
  obtain ⟨rfl⟩ := H
  go_enter Tryd.func61, Tryd.ntmps61
  go_wp2_with (first | ((with_reducible refine gate_callee (f := 120) rfl ?_); refine goesL_ (some 7) rfl rfl Tryd.func120 (by kernel_rfl) rfl #[.int .i64 a1] rfl (by (try simp only [List.map_toArray, List.map_cons, List.map_nil]); first | done | rfl | (simp only [List.length_drop, List.length_take]; rfl)) ?_; (with_reducible refine (spec_l01Power.calls k a1 t106 _ A3.out).mono ?_); rintro e w' ⟨rfl, ⟨nd, rfl⟩⟩; refine ⟨_, rfl, ?_⟩))
  go_ret
  exact ⟨by first | rfl | (simp; done) | (simp [*]; done) | (simp [wrap64]; done), by repeat (first | exact Drawn0.refl _ | apply Drawn0.step)⟩
/-! ### spec_l01Ended: function 157 -/
mutual
def spec_l01Ended.l0 : Nat → Int → Int → Int → Int → Option (Int)
 | 0, _, _, _, _ => none
 | k + 1, x0, x1, x2, x7 => if x7 < x0 then ((spec_l01Digit.f k x2 x7).bind fun t107 => (if t107 = 2 then (spec_l01Ended.j1 k x0 x1 x2 x7 (t107 == 2) false) else (if 0 ≤ (IntKind.u64.wrap (x7)) then (spec_l01Ended.j1 k x0 x1 x2 x7 (t107 == 2) ((Go.bits .and .i64 (shr .i64 x1 (IntKind.u64.wrap (x7))) 1) == 1)) else (none)))) else (some x1)
def spec_l01Ended.j1 : Nat → Int → Int → Int → Int → Bool → Bool → Option (Int)
 | 0, _, _, _, _, _, _ => none
 | k + 1, x0, x1, x2, x7, x8, x27 => if x27 = true then (some (-1)) else (if x8 = true then (if 0 ≤ (IntKind.u64.wrap (x7)) then (spec_l01Ended.l0 k x0 (Go.bits .or .i64 x1 (shl .i64 1 (IntKind.u64.wrap (x7)))) x2 (wrap64 (x7 + 1))) else (none)) else (spec_l01Ended.l0 k x0 x1 x2 (wrap64 (x7 + 1))))
end
def spec_l01Ended.f (k : Nat) (a0 : Int) (a1 : Int) (a2 : Int) : Option (Int) := spec_l01Ended.l0 k a0 a1 a2 0
theorem spec_l01Ended.mono_l : ∀ k, (∀ y0 y1 y2 y3, LeO (spec_l01Ended.l0 k y0 y1 y2 y3) (spec_l01Ended.l0 (k + 1) y0 y1 y2 y3)) ∧ (∀ y0 y1 y2 y3 y4 y5, LeO (spec_l01Ended.j1 k y0 y1 y2 y3 y4 y5) (spec_l01Ended.j1 (k + 1) y0 y1 y2 y3 y4 y5))
 | 0 => ⟨fun _ _ _ _ r h => by simp [spec_l01Ended.l0] at h, fun _ _ _ _ _ _ r h => by simp [spec_l01Ended.j1] at h⟩
 | k + 1 => by
  obtain ⟨ih0, ih1⟩ := spec_l01Ended.mono_l k
  refine ⟨?_, ?_⟩
  ·intro y0 y1 y2 y3
   unfold spec_l01Ended.l0
   repeat' first
   | (with_reducible exact ih0 _ _ _ _)
   | (with_reducible exact ih1 _ _ _ _ _ _)
   | (with_reducible exact spec_l01Digit.mono _ _ _)
   | (with_reducible exact LeO.refl _)
   | (with_reducible exact LeO.none _)
   | (with_reducible refine LeO.ite ?_ ?_)
   | (with_reducible refine LeO.bind ?_ (fun _ => ?_))
   | exact ih0 _ _ _ _
   | exact ih1 _ _ _ _ _ _
   | exact spec_l01Digit.mono _ _ _
   | exact LeO.none _
   | refine LeO.ite ?_ ?_
   | refine LeO.bind ?_ (fun _ => ?_)
  ·intro y0 y1 y2 y3 y4 y5
   unfold spec_l01Ended.j1
   repeat' first
   | (with_reducible exact ih0 _ _ _ _)
   | (with_reducible exact ih1 _ _ _ _ _ _)
   | (with_reducible exact spec_l01Digit.mono _ _ _)
   | (with_reducible exact LeO.refl _)
   | (with_reducible exact LeO.none _)
   | (with_reducible refine LeO.ite ?_ ?_)
   | (with_reducible refine LeO.bind ?_ (fun _ => ?_))
   | exact ih0 _ _ _ _
   | exact ih1 _ _ _ _ _ _
   | exact spec_l01Digit.mono _ _ _
   | exact LeO.none _
   | refine LeO.ite ?_ ?_
   | refine LeO.bind ?_ (fun _ => ?_)
theorem spec_l01Ended.mono : ∀ a0 a1 a2 k, LeO (spec_l01Ended.f k a0 a1 a2) (spec_l01Ended.f (k + 1) a0 a1 a2) := by
 intro a0 a1 a2 k
 obtain ⟨ih0, ih1⟩ := spec_l01Ended.mono_l k
 unfold spec_l01Ended.f
 repeat' first
   | (with_reducible exact ih0 _ _ _ _)
   | (with_reducible exact ih1 _ _ _ _ _ _)
   | (with_reducible exact spec_l01Digit.mono _ _ _)
   | (with_reducible exact LeO.refl _)
   | (with_reducible exact LeO.none _)
   | (with_reducible refine LeO.ite ?_ ?_)
   | (with_reducible refine LeO.bind ?_ (fun _ => ?_))
   | exact ih0 _ _ _ _
   | exact ih1 _ _ _ _ _ _
   | exact spec_l01Digit.mono _ _ _
   | exact LeO.none _
   | refine LeO.ite ?_ ?_
   | refine LeO.bind ?_ (fun _ => ?_)
set_option maxHeartbeats 8000000 in
set_option maxRecDepth 100000 in
theorem spec_l01Ended.calls (k : Nat) (a0 : Int) (a1 : Int) (a2 : Int) (r : Int) (w : World) (h : spec_l01Ended.f k a0 a1 a2 = some r) :
  Calls Tryd.prog 157 #[.int .i64 a0, .int .i64 a1, .int .i64 a2] w fun e w' => e = .returned (.int .i64 r) ∧ Drawn0 w w' := by
 have H : (spec_l01Ended.l0 k a0 a1 a2 0) = some r := h
 clear h
 have H' := Aside0.mk H
 clear H
 go_enter Tryd.func157, Tryd.ntmps157
 go_wp2
 go_loopg [1, 7] k (fun kq v1 v7 w' => ∃ (x1_1 : Int) (x7_1 : Int), v1 = .int .i64 x1_1 ∧ v7 = .int .i64 x7_1 ∧ Aside0 (spec_l01Ended.l0 kq a0 x1_1 a2 x7_1 = some r) ∧ Aside0 (kq ≤ k) ∧ Drawn0 w w')
 case atStart => exact ⟨(a1), (0), (by first | rfl | (simp; done) | (simp [*]; done) | (simp [wrap64]; done)), (by first | rfl | (simp; done) | (simp [*]; done) | (simp [wrap64]; done)), H', ⟨Nat.le_refl _⟩, by repeat (first | exact Drawn0.refl _ | apply Drawn0.step)⟩
 case round =>
  clear H'
  try clear c1
  try clear p2
  obtain ⟨x1_1, x7_1, rfl, rfl, HA, HK1, ⟨m1, rfl⟩⟩ := hrel
  cases gk with
  | zero => exact absurd HA.out (by simp [spec_l01Ended.l0])
  | succ k1 =>
   have H := HA.out
   clear HA
   simp only [spec_l01Ended.l0] at H
   by_cases c4 : x7_1 < a0
   ·rw [if_pos c4] at H
    have c4b0 : decide (x7_1 < a0) = true := decide_eq_true c4
    clear c4
    replace H := Option.bind_eq_some_iff.mp H
    obtain ⟨t107, A50, H⟩ := H
    replace H : (if t107 = 2 then (spec_l01Ended.j1 k1 a0 x1_1 a2 x7_1 (t107 == 2) false) else (if 0 ≤ (IntKind.u64.wrap (x7_1)) then (spec_l01Ended.j1 k1 a0 x1_1 a2 x7_1 (t107 == 2) ((Go.bits .and .i64 (shr .i64 x1_1 (IntKind.u64.wrap (x7_1))) 1) == 1)) else (none))) = some r := H
    have A5 := Aside0.mk A50
    clear A50
    have HC6 := Aside0.mk H
    clear H
    go_upto_region 5 with (first | ((with_reducible refine gate_callee (f := 61) rfl ?_); refine goesL_ (some 16) rfl rfl Tryd.func61 (by kernel_rfl) rfl #[.int .i64 a2, .int .i64 x7_1] rfl (by (try simp only [List.map_toArray, List.map_cons, List.map_nil]); first | done | rfl | (simp only [List.length_drop, List.length_take]; rfl)) ?_; (with_reducible refine (spec_l01Digit.calls k1 a2 x7_1 t107 _ A5.out).mono ?_); rintro e w' ⟨rfl, ⟨nd, rfl⟩⟩; refine ⟨_, rfl, ?_⟩))
    (try simp only [Act.put, List.setIfInBounds_toArray, List.set_cons_zero, List.set_cons_succ])
    obtain ⟨bq, hbq⟩ : ∃ b : Bool, Aside0 ((t107 == 2) = b) := ⟨_, ⟨rfl⟩⟩
    rw [hbq.out]
    go_cut [27] (fun v27 wc => ∃ (kq : Nat) (x27_5 : Bool), v27 = .bool x27_5 ∧ Aside0 (spec_l01Ended.j1 kq a0 x1_1 a2 x7_1 bq x27_5 = some r) ∧ Aside0 (kq ≤ k1) ∧ Drawn0 w wc)
    case first =>
     have H := HC6.out
     clear HC6
     by_cases c7 : t107 = 2
     ·rw [if_pos c7] at H
      have c7b0 : (t107 == 2) = true := beq_iff_eq.mpr c7
      obtain rfl : bq = true := by rw [← hbq.out]; exact c7b0
      rw [c7b0] at H
      have c7b1 : (t107 != 2) = false := bne_eq_false_iff_eq.mpr c7
      clear c7
      (first | rw [c7b0] | (simp only [i64_w, i32_w]; rw [c7b0]) | skip)
      have H' := Aside0.mk H
      clear H
      go_wp2
      go_meet
      case rel => exact ⟨_, (false), (by first | rfl | (simp; done) | (simp [*]; done) | (simp [wrap64]; done)), H', ⟨by have := HK1.out; first | omega | exact Nat.le_refl _⟩, by repeat (first | exact Drawn0.refl _ | apply Drawn0.step)⟩
     ·rw [if_neg c7] at H
      have c7b0 : (t107 == 2) = false := beq_eq_false_iff_ne.mpr c7
      obtain rfl : bq = false := by rw [← hbq.out]; exact c7b0
      rw [c7b0] at H
      have c7b1 : (t107 != 2) = true := bne_iff_ne.mpr c7
      (first | rw [c7b0] | (simp only [i64_w, i32_w]; rw [c7b0]) | skip)
      obtain ⟨ji8, hji8⟩ : ∃ j_ : Int, (IntKind.u64.wrap (x7_1)) = j_ := ⟨_, rfl⟩
      replace H : (if 0 ≤ (ji8) then (spec_l01Ended.j1 k1 a0 x1_1 a2 x7_1 false ((Go.bits .and .i64 (shr .i64 x1_1 (ji8)) 1) == 1)) else (none)) = some r := by first | (rw [hji8] at H; exact H) | (simp only [hji8] at H ⊢; exact H)
      by_cases c9 : 0 ≤ (ji8)
      ·rw [if_pos c9] at H
       have c9b0 := eq_true c9
       have c9b1 : decide (0 ≤ (ji8)) = true := decide_eq_true c9
       clear c9
       obtain ⟨ji10, hji10⟩ : ∃ j_ : Int, (shr .i64 x1_1 (ji8)) = j_ := ⟨_, rfl⟩
       replace H : (spec_l01Ended.j1 k1 a0 x1_1 a2 x7_1 false ((Go.bits .and .i64 (ji10) 1) == 1)) = some r := by first | (rw [hji10] at H; exact H) | (simp only [hji10] at H ⊢; exact H)
       have hji10_ : (x1_1 / 2 ^ min (ji8).toNat 64) = ji10 := hji10
       have hji10z : (ji8) ≤ 64 → (x1_1 / 2 ^ (ji8).toNat) = ji10 := shr_small hji10
       have H' := Aside0.mk H
       clear H
       go_wp2
       go_meet
       case rel => exact ⟨_, (((Go.bits .and .i64 (ji10) 1) == 1)), (by first | rfl | (simp; done) | (simp only [← hji10] <;> (first | rfl | simp)) | (simp [*]; done)), H', ⟨by have := HK1.out; first | omega | exact Nat.le_refl _⟩, by repeat (first | exact Drawn0.refl _ | apply Drawn0.step)⟩
      ·rw [if_neg c9] at H
       exact absurd H (by simp)
    case rest =>
     clear HC6
     try clear c1
     try clear p2
     try clear c4
     try clear c4b0
     try clear c6
     try clear p6
     try clear c7
     try clear c7b0
     try clear c7b1
     try clear c9
     try clear c9b0
     try clear c9b1
     try clear p2
     obtain ⟨kq, x27_5, rfl, HA, HJ5, ⟨mc5, rfl⟩⟩ := hcut
     cases kq with
     | zero => exact absurd HA.out (by simp [spec_l01Ended.j1])
     | succ kj5 =>
      have H := HA.out
      clear HA
      simp only [spec_l01Ended.j1] at H
      by_cases c11 : x27_5 = true
      ·subst c11
       have H1 : (some (-1)) = some r := by rw [if_pos rfl] at H; exact H
       clear H
       have H := H1
       clear H1
       obtain rfl := Option.some.inj H
       simp only [Option.some.injEq, Prod.mk.injEq] at H
       obtain ⟨rfl⟩ := H
       go_wp2
       go_ret
       exact ⟨by first | rfl | (simp; done) | (simp [*]; done) | (simp [wrap64]; done), by repeat (first | exact Drawn0.refl _ | apply Drawn0.step)⟩
      ·replace c11 := Bool.eq_false_iff.mpr c11
       subst c11
       have H1 : (if bq = true then (if 0 ≤ (IntKind.u64.wrap (x7_1)) then (spec_l01Ended.l0 kj5 a0 (Go.bits .or .i64 x1_1 (shl .i64 1 (IntKind.u64.wrap (x7_1)))) a2 (wrap64 (x7_1 + 1))) else (none)) else (spec_l01Ended.l0 kj5 a0 x1_1 a2 (wrap64 (x7_1 + 1)))) = some r := by rw [if_neg (show ¬ (false = true) by decide)] at H; exact H
       clear H
       have H := H1
       clear H1
       by_cases c12 : bq = true
       ·rw [if_pos c12] at H
        obtain rfl : bq = true := c12
        obtain ⟨ji13, hji13⟩ : ∃ j_ : Int, (IntKind.u64.wrap (x7_1)) = j_ := ⟨_, rfl⟩
        replace H : (if 0 ≤ (ji13) then (spec_l01Ended.l0 kj5 a0 (Go.bits .or .i64 x1_1 (shl .i64 1 (ji13))) a2 (wrap64 (x7_1 + 1))) else (none)) = some r := by first | (rw [hji13] at H; exact H) | (simp only [hji13] at H ⊢; exact H)
        by_cases c14 : 0 ≤ (ji13)
        ·rw [if_pos c14] at H
         have c14b0 := eq_true c14
         have c14b1 : decide (0 ≤ (ji13)) = true := decide_eq_true c14
         clear c14
         obtain ⟨ji15, hji15⟩ : ∃ j_ : Int, (shl .i64 1 (ji13)) = j_ := ⟨_, rfl⟩
         replace H : (spec_l01Ended.l0 kj5 a0 (Go.bits .or .i64 x1_1 (ji15)) a2 (wrap64 (x7_1 + 1))) = some r := by first | (rw [hji15] at H; exact H) | (simp only [hji15] at H ⊢; exact H)
         have hji15_ : (IntKind.i64.wrap (1 * 2 ^ min (ji13).toNat 64)) = ji15 := hji15
         have hji15z : (ji13) ≤ 64 → (IntKind.i64.wrap (1 * 2 ^ (ji13).toNat)) = ji15 := shl_small hji15
         have hji15u : (IntKind.i64.wrap (2 ^ min (ji13).toNat 64)) = ji15 := by have h_ := hji15_; rw [Int.one_mul] at h_; exact h_
         have hji15v : (ji13) ≤ 64 → (IntKind.i64.wrap (2 ^ (ji13).toNat)) = ji15 := fun hle_ => by have h_ := hji15z hle_; rw [Int.one_mul] at h_; exact h_
         have hji15y : (wrap64 (1 * 2 ^ min (ji13).toNat 64)) = ji15 := (i64_w _).symm.trans hji15_
         have hji15x : (ji13) ≤ 64 → (wrap64 (1 * 2 ^ (ji13).toNat)) = ji15 := fun h_ => (i64_w _).symm.trans (hji15z h_)
         have H' := Aside0.mk H
         clear H
         go_wp2
         go_roundg kj5
         case measure => have := HK1.out; have := HJ5.out; omega
         case rel => exact ⟨(Go.bits .or .i64 x1_1 (ji15)), (wrap64 (x7_1 + 1)), (by first | rfl | (simp; done) | (simp only [← hji15] <;> (first | rfl | simp)) | (simp [*]; done)), (by first | rfl | (simp; done) | (simp [*]; done) | (simp [wrap64]; done)), H', ⟨by have := HK1.out; have := HJ5.out; omega⟩, by repeat (first | exact Drawn0.refl _ | apply Drawn0.step)⟩
        ·rw [if_neg c14] at H
         exact absurd H (by simp)
       ·rw [if_neg c12] at H
        obtain rfl : bq = false := Bool.eq_false_iff.mpr c12
        have H' := Aside0.mk H
        clear H
        go_wp2
        go_roundg kj5
        case measure => have := HK1.out; have := HJ5.out; omega
        case rel => exact ⟨(x1_1), (wrap64 (x7_1 + 1)), (by first | rfl | (simp; done) | (simp [*]; done) | (simp [wrap64]; done)), (by first | rfl | (simp; done) | (simp [*]; done) | (simp [wrap64]; done)), H', ⟨by have := HK1.out; have := HJ5.out; omega⟩, by repeat (first | exact Drawn0.refl _ | apply Drawn0.step)⟩
   ·rw [if_neg c4] at H
    have c4b0 : decide (x7_1 < a0) = false := decide_eq_false c4
    clear c4
    obtain rfl := Option.some.inj H
    simp only [Option.some.injEq, Prod.mk.injEq] at H
    obtain ⟨rfl⟩ := H
    go_wp2
    go_ret
    exact ⟨by first | rfl | (simp; done) | (simp [*]; done) | (simp [wrap64]; done), by repeat (first | exact Drawn0.refl _ | apply Drawn0.step)⟩
/-! ### spec_l01Alike: function 158 -/
def spec_l01Alike.l0 : Nat → List Int → Int → Int → Int → Int → Int → List Bool → List (List Int) → Option (Bool)
 | 0, _, _, _, _, _, _, _, _ => none
 | k + 1, x1, x2, x3, x9, x81000, x81001, x81002, x81003 => if 0 ≤ x2 then (if x2 < (x81003.length : Int) then (if x9 < ((rd_L1 x81003 x2).length : Int) then (if 0 ≤ x9 then (if 0 ≤ (rd (rd_L1 x81003 x2) x9) then (if (rd (rd_L1 x81003 x2) x9) < (x1.length : Int) then (if 0 ≤ x3 then (if x3 < (x81003.length : Int) then (if x9 < ((rd_L1 x81003 x3).length : Int) then (if 0 ≤ (rd (rd_L1 x81003 x3) x9) then (if (rd (rd_L1 x81003 x3) x9) < (x1.length : Int) then (if (rd x1 (rd (rd_L1 x81003 x2) x9)) = (rd x1 (rd (rd_L1 x81003 x3) x9)) then (spec_l01Alike.l0 k x1 x2 x3 (wrap64 (x9 + 1)) x81000 x81001 x81002 x81003) else (some false)) else (none)) else (none)) else (none)) else (none)) else (none)) else (none)) else (none)) else (none)) else (some true)) else (none)) else (none)
def spec_l01Alike.f (k : Nat) (a0_0 : Int) (a0_1 : Int) (l0_2 : List Bool) (l0_3 : List (List Int)) (l1 : List Int) (a2 : Int) (a3 : Int) : Option (Bool) := spec_l01Alike.l0 k l1 a2 a3 0 a0_0 a0_1 l0_2 l0_3
theorem spec_l01Alike.mono_l : ∀ k, (∀ y0 y1 y2 y3 y4 y5 y6 y7, LeO (spec_l01Alike.l0 k y0 y1 y2 y3 y4 y5 y6 y7) (spec_l01Alike.l0 (k + 1) y0 y1 y2 y3 y4 y5 y6 y7))
 | 0 => fun _ _ _ _ _ _ _ _ r h => by simp [spec_l01Alike.l0] at h
 | k + 1 => by
  have ih0 := spec_l01Alike.mono_l k
  ·intro y0 y1 y2 y3 y4 y5 y6 y7
   unfold spec_l01Alike.l0
   repeat' first
   | (with_reducible exact ih0 _ _ _ _ _ _ _ _)
   | (with_reducible exact LeO.refl _)
   | (with_reducible exact LeO.none _)
   | (with_reducible refine LeO.ite ?_ ?_)
   | (with_reducible refine LeO.bind ?_ (fun _ => ?_))
   | exact ih0 _ _ _ _ _ _ _ _
   | exact LeO.none _
   | refine LeO.ite ?_ ?_
   | refine LeO.bind ?_ (fun _ => ?_)
theorem spec_l01Alike.mono : ∀ a0 a1 a2 a3 a4 a5 a6 k, LeO (spec_l01Alike.f k a0 a1 a2 a3 a4 a5 a6) (spec_l01Alike.f (k + 1) a0 a1 a2 a3 a4 a5 a6) := by
 intro a0 a1 a2 a3 a4 a5 a6 k
 have ih0 := spec_l01Alike.mono_l k
 unfold spec_l01Alike.f
 repeat' first
   | (with_reducible exact ih0 _ _ _ _ _ _ _ _)
   | (with_reducible exact LeO.refl _)
   | (with_reducible exact LeO.none _)
   | (with_reducible refine LeO.ite ?_ ?_)
   | (with_reducible refine LeO.bind ?_ (fun _ => ?_))
   | exact ih0 _ _ _ _ _ _ _ _
   | exact LeO.none _
   | refine LeO.ite ?_ ?_
   | refine LeO.bind ?_ (fun _ => ?_)
set_option maxHeartbeats 8000000 in
set_option maxRecDepth 100000 in
theorem spec_l01Alike.calls (k : Nat) (gp0 : Nat) (a0_0 : Int) (a0_1 : Int) (A0_2 : Option Addr) (c0_2 : Nat) (l0_2 : List Bool) (A0_3 : Option Addr) (c0_3 : Nat) (l0_3 : List (List Int)) (A1 : Option Addr) (c1 : Nat) (l1 : List Int) (a2 : Int) (a3 : Int) (r : Bool) (w : World) (hb0 : w.heap[gp0]? = some (.cells #[.int .i64 a0_0, .int .i64 a0_1, .slice A0_2 l0_2.length c0_2, .slice A0_3 l0_3.length c0_3] 29 (0, 0))) (hr0_2 : Kd.C Kd.bool w A0_2 l0_2.length l0_2) (hc0_2 : l0_2.length ≤ c0_2) (hr0_3 : Kd.C (Kd.slice 2 (Kd.int .i64)) w A0_3 l0_3.length l0_3) (hc0_3 : l0_3.length ≤ c0_3) (hr1 : Kd.C (Kd.int .i64) w A1 l1.length l1) (hc1 : l1.length ≤ c1) (h : spec_l01Alike.f k a0_0 a0_1 l0_2 l0_3 l1 a2 a3 = some r) :
  Calls Tryd.prog 158 #[.pointer (some ⟨gp0, 0, none⟩), .slice A1 l1.length c1, .int .i64 a2, .int .i64 a3] w fun e w' => e = .returned (.bool r) ∧ Below w.heap.size w w' := by
 have HR0_2 := Aside0.mk hr0_2
 have HC0_2 := Aside0.mk hc0_2
 clear hr0_2 hc0_2
 have HR0_3 := Aside0.mk hr0_3
 have HC0_3 := Aside0.mk hc0_3
 clear hr0_3 hc0_3
 have HR1 := Aside0.mk hr1
 have HC1 := Aside0.mk hc1
 clear hr1 hc1
 have BK80 := Aside0.mk hb0
 clear hb0
 have HB := Aside0.mk (Below.refl w.heap.size w)
 have H : (spec_l01Alike.l0 k l1 a2 a3 0 a0_0 a0_1 l0_2 l0_3) = some r := h
 clear h
 have H' := Aside0.mk H
 clear H
 go_enter Tryd.func158, Tryd.ntmps158
 go_wp2
 repeat (go_quiet (fail); try go_wp2)
 go_loopg [9] k (fun kq v9 w' => ∃ (x9_1 : Int), v9 = .int .i64 x9_1 ∧ Aside0 (spec_l01Alike.l0 kq l1 a2 a3 x9_1 a0_0 a0_1 l0_2 l0_3 = some r) ∧ Aside0 (kq ≤ k) ∧ Aside0 (w'.heap[gp0]? = some (.cells #[.int .i64 a0_0, .int .i64 a0_1, (.slice A0_2 l0_2.length c0_2), (.slice A0_3 l0_3.length c0_3)] 29 (0, 0))) ∧ Aside0 (Below w.heap.size w w'))
 case atStart => exact ⟨(0), (by first | rfl | (simp; done) | (simp [*]; done) | (simp [wrap64]; done)), H', ⟨Nat.le_refl _⟩, ⟨by (with_reducible repeat (first | refine blk_drewN ?_ _ | refine blk_drew ?_ | refine blk_alloc ?_ _)); exact BK80.out⟩, ⟨by repeat (first | (with_reducible first | exact HB.out | apply below_alloc | apply pw_below_drewN | apply below_drew1 | refine below_set ?_ GE80.out) | exact HB.out)⟩⟩
 case round =>
  clear H'
  try clear c1
  try clear p2
  obtain ⟨x9_1, rfl, HA, HK1, BK80, HB⟩ := hrel
  cases gk with
  | zero => exact absurd HA.out (by simp [spec_l01Alike.l0])
  | succ k1 =>
   have H := HA.out
   clear HA
   simp only [spec_l01Alike.l0] at H
   by_cases c5 : 0 ≤ a2
   ·rw [if_pos c5] at H
    have c5b0 : decide (0 ≤ a2) = true := decide_eq_true c5
    clear c5
    by_cases c6 : a2 < (l0_3.length : Int)
    ·rw [if_pos c6] at H
     have c6b0 : decide (a2 < (l0_3.length : Int)) = true := decide_eq_true c6
     clear c6
     by_cases c7 : x9_1 < ((rd_L1 l0_3 a2).length : Int)
     ·rw [if_pos c7] at H
      have c7b0 : decide (x9_1 < ((rd_L1 l0_3 a2).length : Int)) = true := decide_eq_true c7
      clear c7
      by_cases c8 : 0 ≤ x9_1
      ·rw [if_pos c8] at H
       have c8b0 : decide (0 ≤ x9_1) = true := decide_eq_true c8
       clear c8
       by_cases c9 : 0 ≤ (rd (rd_L1 l0_3 a2) x9_1)
       ·rw [if_pos c9] at H
        have c9b0 : decide (0 ≤ (rd (rd_L1 l0_3 a2) x9_1)) = true := decide_eq_true c9
        clear c9
        by_cases c10 : (rd (rd_L1 l0_3 a2) x9_1) < (l1.length : Int)
        ·rw [if_pos c10] at H
         have c10b0 : decide ((rd (rd_L1 l0_3 a2) x9_1) < (l1.length : Int)) = true := decide_eq_true c10
         clear c10
         by_cases c11 : 0 ≤ a3
         ·rw [if_pos c11] at H
          have c11b0 : decide (0 ≤ a3) = true := decide_eq_true c11
          clear c11
          by_cases c12 : a3 < (l0_3.length : Int)
          ·rw [if_pos c12] at H
           have c12b0 : decide (a3 < (l0_3.length : Int)) = true := decide_eq_true c12
           clear c12
           by_cases c13 : x9_1 < ((rd_L1 l0_3 a3).length : Int)
           ·rw [if_pos c13] at H
            have c13b0 : decide (x9_1 < ((rd_L1 l0_3 a3).length : Int)) = true := decide_eq_true c13
            clear c13
            by_cases c14 : 0 ≤ (rd (rd_L1 l0_3 a3) x9_1)
            ·rw [if_pos c14] at H
             have c14b0 : decide (0 ≤ (rd (rd_L1 l0_3 a3) x9_1)) = true := decide_eq_true c14
             clear c14
             by_cases c15 : (rd (rd_L1 l0_3 a3) x9_1) < (l1.length : Int)
             ·rw [if_pos c15] at H
              have c15b0 : decide ((rd (rd_L1 l0_3 a3) x9_1) < (l1.length : Int)) = true := decide_eq_true c15
              clear c15
              by_cases c16 : (rd l1 (rd (rd_L1 l0_3 a2) x9_1)) = (rd l1 (rd (rd_L1 l0_3 a3) x9_1))
              ·rw [if_pos c16] at H
               have c16b0 : ((rd l1 (rd (rd_L1 l0_3 a2) x9_1)) == (rd l1 (rd (rd_L1 l0_3 a3) x9_1))) = true := beq_iff_eq.mpr c16
               have c16b1 : ((rd l1 (rd (rd_L1 l0_3 a2) x9_1)) != (rd l1 (rd (rd_L1 l0_3 a3) x9_1))) = false := bne_eq_false_iff_eq.mpr c16
               clear c16
               have H' := Aside0.mk H
               clear H
               have hcz17_0 : wr.cell? ⟨gp0, 0, none⟩ = some (.int .i64 a0_0) := (blk_cell BK80.out 0).trans rfl
               have hcz17_1 : wr.cell? ⟨gp0, 1, none⟩ = some (.int .i64 a0_1) := (blk_cell BK80.out 1).trans rfl
               have hcz17_2 : wr.cell? ⟨gp0, 2, none⟩ = some (.slice A0_2 l0_2.length c0_2) := (blk_cell BK80.out 2).trans rfl
               have hcz17_3 : wr.cell? ⟨gp0, 3, none⟩ = some (.slice A0_3 l0_3.length c0_3) := (blk_cell BK80.out 3).trans rfl
               have hfz17_0 := blk_frozen BK80.out 0
               have hfz17_1 := blk_frozen BK80.out 1
               have hfz17_2 := blk_frozen BK80.out 2
               have hfz17_3 := blk_frozen BK80.out 3
               have p108 : 0 ≤ (a2 : Int) := of_decide_eq_true (by first | (with_reducible assumption) | assumption)
               have q108 : a2 < (l0_3.length : Int) := of_decide_eq_true (by first | (with_reducible assumption) | assumption)
               obtain ⟨ad108, A108_0, c108_0, e108, hx108_0, hl108_0, hi108_0⟩ := at_L1 HR0_3.out a2 p108 q108
               cases e108
               replace hx108_0 := (HB.out.cell (World.block_lt_of_cell? w _ hx108_0)).trans hx108_0
               have HR108_0 := Aside0.mk hi108_0
               have HC108_0 := Aside0.mk hl108_0
               clear hi108_0 hl108_0
               replace p108 := eq_true p108
               replace q108 := eq_true q108
               have p109 : 0 ≤ (a2 : Int) := of_decide_eq_true (by first | (with_reducible assumption) | assumption)
               have q109 : a2 < (l0_3.length : Int) := of_decide_eq_true (by first | (with_reducible assumption) | assumption)
               obtain ⟨ad109, A109_0, c109_0, e109, hx109_0, hl109_0, hi109_0⟩ := at_L1 HR0_3.out a2 p109 q109
               obtain rfl : ad108 = ad109 := (by injection e109)
               replace hx109_0 := (HB.out.cell (World.block_lt_of_cell? w _ hx109_0)).trans hx109_0
               have HR109_0 := Aside0.mk hi109_0
               have HC109_0 := Aside0.mk hl109_0
               clear hi109_0 hl109_0
               replace p109 := eq_true p109
               replace q109 := eq_true q109
               have ea_ := Option.some.inj (hx108_0.symm.trans hx109_0)
               injection ea_ with ea_ en_ ec_
               subst ea_
               subst ec_
               clear en_
               have p110 : 0 ≤ (x9_1 : Int) := of_decide_eq_true (by first | (with_reducible assumption) | assumption)
               have q110 : x9_1 < ((rd_L1 l0_3 a2).length : Int) := of_decide_eq_true (by first | (with_reducible assumption) | assumption)
               obtain ⟨ad110, e110, hx110_0⟩ := Kd.at_int HR109_0.out x9_1 p110 q110
               cases e110
               replace hx110_0 := (HB.out.cell (World.block_lt_of_cell? w _ hx110_0)).trans hx110_0
               replace p110 := eq_true p110
               replace q110 := eq_true q110
               have p111 : 0 ≤ ((rd (rd_L1 l0_3 a2) x9_1) : Int) := of_decide_eq_true (by first | (with_reducible assumption) | assumption)
               have q111 : (rd (rd_L1 l0_3 a2) x9_1) < (l1.length : Int) := of_decide_eq_true (by first | (with_reducible assumption) | assumption)
               obtain ⟨ad111, e111, hx111_0⟩ := Kd.at_int HR1.out (rd (rd_L1 l0_3 a2) x9_1) p111 q111
               cases e111
               replace hx111_0 := (HB.out.cell (World.block_lt_of_cell? w _ hx111_0)).trans hx111_0
               replace p111 := eq_true p111
               replace q111 := eq_true q111
               have p112 : 0 ≤ (a3 : Int) := of_decide_eq_true (by first | (with_reducible assumption) | assumption)
               have q112 : a3 < (l0_3.length : Int) := of_decide_eq_true (by first | (with_reducible assumption) | assumption)
               obtain ⟨ad112, A112_0, c112_0, e112, hx112_0, hl112_0, hi112_0⟩ := at_L1 HR0_3.out a3 p112 q112
               obtain rfl : ad108 = ad112 := (by injection e112)
               replace hx112_0 := (HB.out.cell (World.block_lt_of_cell? w _ hx112_0)).trans hx112_0
               have HR112_0 := Aside0.mk hi112_0
               have HC112_0 := Aside0.mk hl112_0
               clear hi112_0 hl112_0
               replace p112 := eq_true p112
               replace q112 := eq_true q112
               have p113 : 0 ≤ (x9_1 : Int) := of_decide_eq_true (by first | (with_reducible assumption) | assumption)
               have q113 : x9_1 < ((rd_L1 l0_3 a3).length : Int) := of_decide_eq_true (by first | (with_reducible assumption) | assumption)
               obtain ⟨ad113, e113, hx113_0⟩ := Kd.at_int HR112_0.out x9_1 p113 q113
               cases e113
               replace hx113_0 := (HB.out.cell (World.block_lt_of_cell? w _ hx113_0)).trans hx113_0
               replace p113 := eq_true p113
               replace q113 := eq_true q113
               have p114 : 0 ≤ ((rd (rd_L1 l0_3 a3) x9_1) : Int) := of_decide_eq_true (by first | (with_reducible assumption) | assumption)
               have q114 : (rd (rd_L1 l0_3 a3) x9_1) < (l1.length : Int) := of_decide_eq_true (by first | (with_reducible assumption) | assumption)
               obtain ⟨ad114, e114, hx114_0⟩ := Kd.at_int HR1.out (rd (rd_L1 l0_3 a3) x9_1) p114 q114
               obtain rfl : ad111 = ad114 := (by injection e114)
               replace hx114_0 := (HB.out.cell (World.block_lt_of_cell? w _ hx114_0)).trans hx114_0
               replace p114 := eq_true p114
               replace q114 := eq_true q114
               go_wp2
               repeat (go_quiet (fail); try go_wp2)
               go_roundg k1
               case measure => have := HK1.out; omega
               case rel => exact ⟨(wrap64 (x9_1 + 1)), (by first | rfl | (simp; done) | (simp [*]; done) | (simp [wrap64]; done)), H', ⟨by have := HK1.out; omega⟩, ⟨by (with_reducible repeat (first | refine blk_drewN ?_ _ | refine blk_drew ?_ | refine blk_alloc ?_ _)); exact BK80.out⟩, ⟨by repeat (first | (with_reducible first | exact HB.out | apply below_alloc | apply pw_below_drewN | apply below_drew1 | refine below_set ?_ GE80.out) | exact HB.out)⟩⟩
              ·rw [if_neg c16] at H
               have c16b0 : ((rd l1 (rd (rd_L1 l0_3 a2) x9_1)) == (rd l1 (rd (rd_L1 l0_3 a3) x9_1))) = false := beq_eq_false_iff_ne.mpr c16
               have c16b1 : ((rd l1 (rd (rd_L1 l0_3 a2) x9_1)) != (rd l1 (rd (rd_L1 l0_3 a3) x9_1))) = true := bne_iff_ne.mpr c16
               obtain rfl := Option.some.inj H
               simp only [Option.some.injEq, Prod.mk.injEq] at H
               obtain ⟨rfl⟩ := H
               have hcz18_0 : wr.cell? ⟨gp0, 0, none⟩ = some (.int .i64 a0_0) := (blk_cell BK80.out 0).trans rfl
               have hcz18_1 : wr.cell? ⟨gp0, 1, none⟩ = some (.int .i64 a0_1) := (blk_cell BK80.out 1).trans rfl
               have hcz18_2 : wr.cell? ⟨gp0, 2, none⟩ = some (.slice A0_2 l0_2.length c0_2) := (blk_cell BK80.out 2).trans rfl
               have hcz18_3 : wr.cell? ⟨gp0, 3, none⟩ = some (.slice A0_3 l0_3.length c0_3) := (blk_cell BK80.out 3).trans rfl
               have hfz18_0 := blk_frozen BK80.out 0
               have hfz18_1 := blk_frozen BK80.out 1
               have hfz18_2 := blk_frozen BK80.out 2
               have hfz18_3 := blk_frozen BK80.out 3
               have p108 : 0 ≤ (a2 : Int) := of_decide_eq_true (by first | (with_reducible assumption) | assumption)
               have q108 : a2 < (l0_3.length : Int) := of_decide_eq_true (by first | (with_reducible assumption) | assumption)
               obtain ⟨ad108, A108_0, c108_0, e108, hx108_0, hl108_0, hi108_0⟩ := at_L1 HR0_3.out a2 p108 q108
               cases e108
               replace hx108_0 := (HB.out.cell (World.block_lt_of_cell? w _ hx108_0)).trans hx108_0
               have HR108_0 := Aside0.mk hi108_0
               have HC108_0 := Aside0.mk hl108_0
               clear hi108_0 hl108_0
               replace p108 := eq_true p108
               replace q108 := eq_true q108
               have p109 : 0 ≤ (a2 : Int) := of_decide_eq_true (by first | (with_reducible assumption) | assumption)
               have q109 : a2 < (l0_3.length : Int) := of_decide_eq_true (by first | (with_reducible assumption) | assumption)
               obtain ⟨ad109, A109_0, c109_0, e109, hx109_0, hl109_0, hi109_0⟩ := at_L1 HR0_3.out a2 p109 q109
               obtain rfl : ad108 = ad109 := (by injection e109)
               replace hx109_0 := (HB.out.cell (World.block_lt_of_cell? w _ hx109_0)).trans hx109_0
               have HR109_0 := Aside0.mk hi109_0
               have HC109_0 := Aside0.mk hl109_0
               clear hi109_0 hl109_0
               replace p109 := eq_true p109
               replace q109 := eq_true q109
               have ea_ := Option.some.inj (hx108_0.symm.trans hx109_0)
               injection ea_ with ea_ en_ ec_
               subst ea_
               subst ec_
               clear en_
               have p110 : 0 ≤ (x9_1 : Int) := of_decide_eq_true (by first | (with_reducible assumption) | assumption)
               have q110 : x9_1 < ((rd_L1 l0_3 a2).length : Int) := of_decide_eq_true (by first | (with_reducible assumption) | assumption)
               obtain ⟨ad110, e110, hx110_0⟩ := Kd.at_int HR109_0.out x9_1 p110 q110
               cases e110
               replace hx110_0 := (HB.out.cell (World.block_lt_of_cell? w _ hx110_0)).trans hx110_0
               replace p110 := eq_true p110
               replace q110 := eq_true q110
               have p111 : 0 ≤ ((rd (rd_L1 l0_3 a2) x9_1) : Int) := of_decide_eq_true (by first | (with_reducible assumption) | assumption)
               have q111 : (rd (rd_L1 l0_3 a2) x9_1) < (l1.length : Int) := of_decide_eq_true (by first | (with_reducible assumption) | assumption)
               obtain ⟨ad111, e111, hx111_0⟩ := Kd.at_int HR1.out (rd (rd_L1 l0_3 a2) x9_1) p111 q111
               cases e111
               replace hx111_0 := (HB.out.cell (World.block_lt_of_cell? w _ hx111_0)).trans hx111_0
               replace p111 := eq_true p111
               replace q111 := eq_true q111
               have p112 : 0 ≤ (a3 : Int) := of_decide_eq_true (by first | (with_reducible assumption) | assumption)
               have q112 : a3 < (l0_3.length : Int) := of_decide_eq_true (by first | (with_reducible assumption) | assumption)
               obtain ⟨ad112, A112_0, c112_0, e112, hx112_0, hl112_0, hi112_0⟩ := at_L1 HR0_3.out a3 p112 q112
               obtain rfl : ad108 = ad112 := (by injection e112)
               replace hx112_0 := (HB.out.cell (World.block_lt_of_cell? w _ hx112_0)).trans hx112_0
               have HR112_0 := Aside0.mk hi112_0
               have HC112_0 := Aside0.mk hl112_0
               clear hi112_0 hl112_0
               replace p112 := eq_true p112
               replace q112 := eq_true q112
               have p113 : 0 ≤ (x9_1 : Int) := of_decide_eq_true (by first | (with_reducible assumption) | assumption)
               have q113 : x9_1 < ((rd_L1 l0_3 a3).length : Int) := of_decide_eq_true (by first | (with_reducible assumption) | assumption)
               obtain ⟨ad113, e113, hx113_0⟩ := Kd.at_int HR112_0.out x9_1 p113 q113
               cases e113
               replace hx113_0 := (HB.out.cell (World.block_lt_of_cell? w _ hx113_0)).trans hx113_0
               replace p113 := eq_true p113
               replace q113 := eq_true q113
               have p114 : 0 ≤ ((rd (rd_L1 l0_3 a3) x9_1) : Int) := of_decide_eq_true (by first | (with_reducible assumption) | assumption)
               have q114 : (rd (rd_L1 l0_3 a3) x9_1) < (l1.length : Int) := of_decide_eq_true (by first | (with_reducible assumption) | assumption)
               obtain ⟨ad114, e114, hx114_0⟩ := Kd.at_int HR1.out (rd (rd_L1 l0_3 a3) x9_1) p114 q114
               obtain rfl : ad111 = ad114 := (by injection e114)
               replace hx114_0 := (HB.out.cell (World.block_lt_of_cell? w _ hx114_0)).trans hx114_0
               replace p114 := eq_true p114
               replace q114 := eq_true q114
               go_wp2
               repeat (go_quiet (fail); try go_wp2)
               go_ret
               exact ⟨by first | rfl | (simp [errW_none, errW_some] <;> rfl) | (simp [*, errW_none, errW_some] <;> rfl), by repeat (first | (with_reducible first | exact HB.out | apply below_alloc | apply pw_below_drewN | apply below_drew1 | refine below_set ?_ GE80.out) | exact HB.out)⟩
             ·rw [if_neg c15] at H
              exact absurd H (by simp)
            ·rw [if_neg c14] at H
             exact absurd H (by simp)
           ·rw [if_neg c13] at H
            exact absurd H (by simp)
          ·rw [if_neg c12] at H
           exact absurd H (by simp)
         ·rw [if_neg c11] at H
          exact absurd H (by simp)
        ·rw [if_neg c10] at H
         exact absurd H (by simp)
       ·rw [if_neg c9] at H
        exact absurd H (by simp)
      ·rw [if_neg c8] at H
       exact absurd H (by simp)
     ·rw [if_neg c7] at H
      have c7b0 : decide (x9_1 < ((rd_L1 l0_3 a2).length : Int)) = false := decide_eq_false c7
      clear c7
      obtain rfl := Option.some.inj H
      simp only [Option.some.injEq, Prod.mk.injEq] at H
      obtain ⟨rfl⟩ := H
      have hcz19_0 : wr.cell? ⟨gp0, 0, none⟩ = some (.int .i64 a0_0) := (blk_cell BK80.out 0).trans rfl
      have hcz19_1 : wr.cell? ⟨gp0, 1, none⟩ = some (.int .i64 a0_1) := (blk_cell BK80.out 1).trans rfl
      have hcz19_2 : wr.cell? ⟨gp0, 2, none⟩ = some (.slice A0_2 l0_2.length c0_2) := (blk_cell BK80.out 2).trans rfl
      have hcz19_3 : wr.cell? ⟨gp0, 3, none⟩ = some (.slice A0_3 l0_3.length c0_3) := (blk_cell BK80.out 3).trans rfl
      have hfz19_0 := blk_frozen BK80.out 0
      have hfz19_1 := blk_frozen BK80.out 1
      have hfz19_2 := blk_frozen BK80.out 2
      have hfz19_3 := blk_frozen BK80.out 3
      have p108 : 0 ≤ (a2 : Int) := of_decide_eq_true (by first | (with_reducible assumption) | assumption)
      have q108 : a2 < (l0_3.length : Int) := of_decide_eq_true (by first | (with_reducible assumption) | assumption)
      obtain ⟨ad108, A108_0, c108_0, e108, hx108_0, hl108_0, hi108_0⟩ := at_L1 HR0_3.out a2 p108 q108
      cases e108
      replace hx108_0 := (HB.out.cell (World.block_lt_of_cell? w _ hx108_0)).trans hx108_0
      have HR108_0 := Aside0.mk hi108_0
      have HC108_0 := Aside0.mk hl108_0
      clear hi108_0 hl108_0
      replace p108 := eq_true p108
      replace q108 := eq_true q108
      go_wp2
      repeat (go_quiet (fail); try go_wp2)
      go_ret
      exact ⟨by first | rfl | (simp [errW_none, errW_some] <;> rfl) | (simp [*, errW_none, errW_some] <;> rfl), by repeat (first | (with_reducible first | exact HB.out | apply below_alloc | apply pw_below_drewN | apply below_drew1 | refine below_set ?_ GE80.out) | exact HB.out)⟩
    ·rw [if_neg c6] at H
     exact absurd H (by simp)
   ·rw [if_neg c5] at H
    exact absurd H (by simp)
end Go.Proofs.YtbamnonamdpooaaDoor.PB1
namespace Go.Proofs.YtbamnonamdpooaaDoor.PB1
open Go.RowKit Go.Proofs.YtbamnonamdpooaaDoorW.PrintWords Go.Proofs.YtbamnonamdpooaaDoorW.PrintLast Go.Proofs.YtbamnonamdpooaaDoorW.PrintMore
attribute [local go_sem] max2_int min2_int max_two min_two max_three min_three max_four min_four   -- for this text's walks alone
set_option linter.unusedVariables false
set_option linter.unusedSimpArgs false
/-! ### spec_l01Finer: function 109 -/
mutual
def spec_l01Finer.l0 : Nat → List Int → Int → List Int → List Int → Int → Int → Int → List Bool → List (List Int) → Option (List Int × Int)
 | 0, _, _, _, _, _, _, _, _, _ => none
 | k + 1, x1, x6, x7, x8, x9, x81000, x81001, x81002, x81003 => if x9 < x6 then (if 0 ≤ x9 then (if x9 < (x7.length : Int) then (spec_l01Finer.l1 k x1 x6 (x7.set (x9 : Int).toNat (-1)) x8 x9 0 x81000 x81001 x81002 x81003) else (none)) else (none)) else (some (x7, (x8.length : Int)))
def spec_l01Finer.l1 : Nat → List Int → Int → List Int → List Int → Int → Int → Int → Int → List Bool → List (List Int) → Option (List Int × Int)
 | 0, _, _, _, _, _, _, _, _, _, _ => none
 | k + 1, x1, x6, x7, x8, x9, x10, x81000, x81001, x81002, x81003 => if x10 < (x8.length : Int) then (if 0 ≤ x9 then (if x9 < (x7.length : Int) then (spec_l01Finer.j2 k x1 x6 x7 x8 x9 x10 (decide ((rd x7 x9) < 0)) x81000 x81001 x81002 x81003) else (none)) else (none)) else (spec_l01Finer.j2 k x1 x6 x7 x8 x9 x10 false x81000 x81001 x81002 x81003)
def spec_l01Finer.j2 : Nat → List Int → Int → List Int → List Int → Int → Int → Bool → Int → Int → List Bool → List (List Int) → Option (List Int × Int)
 | 0, _, _, _, _, _, _, _, _, _, _, _ => none
 | k + 1, x1, x6, x7, x8, x9, x10, x34, x81000, x81001, x81002, x81003 => if x34 = true then (if 0 ≤ x10 then (if x10 < (x8.length : Int) then (if 0 ≤ (rd x8 x10) then (if (rd x8 x10) < (x1.length : Int) then (if 0 ≤ x9 then (if x9 < (x1.length : Int) then (if (rd x1 (rd x8 x10)) = (rd x1 x9) then ((spec_l01Alike.f k x81000 x81001 x81002 x81003 x1 (rd x8 x10) x9).bind fun t127 => (if t127 = true then (if x9 < (x7.length : Int) then (spec_l01Finer.l1 k x1 x6 (x7.set (x9 : Int).toNat x10) x8 x9 (wrap64 (x10 + 1)) x81000 x81001 x81002 x81003) else (none)) else (spec_l01Finer.l1 k x1 x6 x7 x8 x9 (wrap64 (x10 + 1)) x81000 x81001 x81002 x81003))) else (spec_l01Finer.l1 k x1 x6 x7 x8 x9 (wrap64 (x10 + 1)) x81000 x81001 x81002 x81003)) else (none)) else (none)) else (none)) else (none)) else (none)) else (none)) else (if 0 ≤ x9 then (if x9 < (x7.length : Int) then (if (rd x7 x9) < 0 then (if x8.length < 17592186044416 then (spec_l01Finer.l0 k x1 x6 (x7.set (x9 : Int).toNat (x8.length : Int)) (x8 ++ [x9]) (wrap64 (x9 + 1)) x81000 x81001 x81002 x81003) else (none)) else (spec_l01Finer.l0 k x1 x6 x7 x8 (wrap64 (x9 + 1)) x81000 x81001 x81002 x81003)) else (none)) else (none))
end
def spec_l01Finer.f (k : Nat) (a0_0 : Int) (a0_1 : Int) (l0_2 : List Bool) (l0_3 : List (List Int)) (l1 : List Int) : Option (List Int × Int) := if 0 ≤ (l1.length : Int) then (if ((l1.length : Int) : Int).toNat ≤ 35184372088832 then (spec_l01Finer.l0 k l1 (l1.length : Int) (List.replicate ((l1.length : Int) : Int).toNat 0) (([] : List Int)) 0 a0_0 a0_1 l0_2 l0_3) else (none)) else (none)
theorem spec_l01Finer.mono_l : ∀ k, (∀ y0 y1 y2 y3 y4 y5 y6 y7 y8, LeO (spec_l01Finer.l0 k y0 y1 y2 y3 y4 y5 y6 y7 y8) (spec_l01Finer.l0 (k + 1) y0 y1 y2 y3 y4 y5 y6 y7 y8)) ∧ (∀ y0 y1 y2 y3 y4 y5 y6 y7 y8 y9, LeO (spec_l01Finer.l1 k y0 y1 y2 y3 y4 y5 y6 y7 y8 y9) (spec_l01Finer.l1 (k + 1) y0 y1 y2 y3 y4 y5 y6 y7 y8 y9)) ∧ (∀ y0 y1 y2 y3 y4 y5 y6 y7 y8 y9 y10, LeO (spec_l01Finer.j2 k y0 y1 y2 y3 y4 y5 y6 y7 y8 y9 y10) (spec_l01Finer.j2 (k + 1) y0 y1 y2 y3 y4 y5 y6 y7 y8 y9 y10))
 | 0 => ⟨fun _ _ _ _ _ _ _ _ _ r h => by simp [spec_l01Finer.l0] at h, fun _ _ _ _ _ _ _ _ _ _ r h => by simp [spec_l01Finer.l1] at h, fun _ _ _ _ _ _ _ _ _ _ _ r h => by simp [spec_l01Finer.j2] at h⟩
 | k + 1 => by
  obtain ⟨ih0, ih1, ih2⟩ := spec_l01Finer.mono_l k
  refine ⟨?_, ?_, ?_⟩
  ·intro y0 y1 y2 y3 y4 y5 y6 y7 y8
   unfold spec_l01Finer.l0
   repeat' first
   | (with_reducible exact ih0 _ _ _ _ _ _ _ _ _)
   | (with_reducible exact ih1 _ _ _ _ _ _ _ _ _ _)
   | (with_reducible exact ih2 _ _ _ _ _ _ _ _ _ _ _)
   | (with_reducible exact spec_l01Alike.mono _ _ _ _ _ _ _ _)
   | (with_reducible exact LeO.refl _)
   | (with_reducible exact LeO.none _)
   | (with_reducible refine LeO.ite ?_ ?_)
   | (with_reducible refine LeO.bind ?_ (fun _ => ?_))
   | exact ih0 _ _ _ _ _ _ _ _ _
   | exact ih1 _ _ _ _ _ _ _ _ _ _
   | exact ih2 _ _ _ _ _ _ _ _ _ _ _
   | exact spec_l01Alike.mono _ _ _ _ _ _ _ _
   | exact LeO.none _
   | refine LeO.ite ?_ ?_
   | refine LeO.bind ?_ (fun _ => ?_)
  ·intro y0 y1 y2 y3 y4 y5 y6 y7 y8 y9
   unfold spec_l01Finer.l1
   repeat' first
   | (with_reducible exact ih0 _ _ _ _ _ _ _ _ _)
   | (with_reducible exact ih1 _ _ _ _ _ _ _ _ _ _)
   | (with_reducible exact ih2 _ _ _ _ _ _ _ _ _ _ _)
   | (with_reducible exact spec_l01Alike.mono _ _ _ _ _ _ _ _)
   | (with_reducible exact LeO.refl _)
   | (with_reducible exact LeO.none _)
   | (with_reducible refine LeO.ite ?_ ?_)
   | (with_reducible refine LeO.bind ?_ (fun _ => ?_))
   | exact ih0 _ _ _ _ _ _ _ _ _
   | exact ih1 _ _ _ _ _ _ _ _ _ _
   | exact ih2 _ _ _ _ _ _ _ _ _ _ _
   | exact spec_l01Alike.mono _ _ _ _ _ _ _ _
   | exact LeO.none _
   | refine LeO.ite ?_ ?_
   | refine LeO.bind ?_ (fun _ => ?_)
  ·intro y0 y1 y2 y3 y4 y5 y6 y7 y8 y9 y10
   unfold spec_l01Finer.j2
   repeat' first
   | (with_reducible exact ih0 _ _ _ _ _ _ _ _ _)
   | (with_reducible exact ih1 _ _ _ _ _ _ _ _ _ _)
   | (with_reducible exact ih2 _ _ _ _ _ _ _ _ _ _ _)
   | (with_reducible exact spec_l01Alike.mono _ _ _ _ _ _ _ _)
   | (with_reducible exact LeO.refl _)
   | (with_reducible exact LeO.none _)
   | (with_reducible refine LeO.ite ?_ ?_)
   | (with_reducible refine LeO.bind ?_ (fun _ => ?_))
   | exact ih0 _ _ _ _ _ _ _ _ _
   | exact ih1 _ _ _ _ _ _ _ _ _ _
   | exact ih2 _ _ _ _ _ _ _ _ _ _ _
   | exact spec_l01Alike.mono _ _ _ _ _ _ _ _
   | exact LeO.none _
   | refine LeO.ite ?_ ?_
   | refine LeO.bind ?_ (fun _ => ?_)
theorem spec_l01Finer.mono : ∀ a0 a1 a2 a3 a4 k, LeO (spec_l01Finer.f k a0 a1 a2 a3 a4) (spec_l01Finer.f (k + 1) a0 a1 a2 a3 a4) := by
 intro a0 a1 a2 a3 a4 k
 obtain ⟨ih0, ih1, ih2⟩ := spec_l01Finer.mono_l k
 unfold spec_l01Finer.f
 repeat' first
   | (with_reducible exact ih0 _ _ _ _ _ _ _ _ _)
   | (with_reducible exact ih1 _ _ _ _ _ _ _ _ _ _)
   | (with_reducible exact ih2 _ _ _ _ _ _ _ _ _ _ _)
   | (with_reducible exact spec_l01Alike.mono _ _ _ _ _ _ _ _)
   | (with_reducible exact LeO.refl _)
   | (with_reducible exact LeO.none _)
   | (with_reducible refine LeO.ite ?_ ?_)
   | (with_reducible refine LeO.bind ?_ (fun _ => ?_))
   | exact ih0 _ _ _ _ _ _ _ _ _
   | exact ih1 _ _ _ _ _ _ _ _ _ _
   | exact ih2 _ _ _ _ _ _ _ _ _ _ _
   | exact spec_l01Alike.mono _ _ _ _ _ _ _ _
   | exact LeO.none _
   | refine LeO.ite ?_ ?_
   | refine LeO.bind ?_ (fun _ => ?_)
def spec_l01Finer.T11 : Bool × List (List Nat × List Nat) := (true, [([], []), ([], []), ([], []), ([1, 2], [1, 2]), ([3], [3]), ([0, 4], [0, 4]), ([5], [5]), ([], []), ([], []), ([7, 8], [7, 8]), ([9], [9]), ([6, 10], [6, 10]), ([11], [11]), ([12], [12]), ([12], [12]), ([12], [12]), ([12], [12]), ([15, 16, 12], [12, 15, 16]), ([17, 12], [12, 17]), ([12], [12]), ([13, 14, 18, 19, 12, 12], [12, 13, 14, 18, 19]), ([12, 20], [12, 20])])
def spec_l01Finer.B11 : List Nat := [0, 0, 0, 6, 14, 31, 63, 0, 0, 384, 896, 2047, 4095, 8191, 8191, 8191, 8191, 106495, 237567, 8191, 1048575, 2097151]
theorem spec_l01Finer.tab11 : rtab .any (opsOf Tryd.f109 11) = spec_l01Finer.T11 := by kernel_rfl
theorem spec_l01Finer.bits11 : waitsOk spec_l01Finer.T11.2 spec_l01Finer.B11 = true := by kernel_rfl
set_option maxHeartbeats 8000000 in
set_option maxRecDepth 100000 in
theorem spec_l01Finer.calls (k : Nat) (gp0 : Nat) (a0_0 : Int) (a0_1 : Int) (A0_2 : Option Addr) (c0_2 : Nat) (l0_2 : List Bool) (A0_3 : Option Addr) (c0_3 : Nat) (l0_3 : List (List Int)) (A1 : Option Addr) (c1 : Nat) (l1 : List Int) (r1 : List Int) (r2 : Int) (w : World) (hb0 : w.heap[gp0]? = some (.cells #[.int .i64 a0_0, .int .i64 a0_1, .slice A0_2 l0_2.length c0_2, .slice A0_3 l0_3.length c0_3] 29 (0, 0))) (hr0_2 : Kd.C Kd.bool w A0_2 l0_2.length l0_2) (hc0_2 : l0_2.length ≤ c0_2) (hr0_3 : Kd.C (Kd.slice 2 (Kd.int .i64)) w A0_3 l0_3.length l0_3) (hc0_3 : l0_3.length ≤ c0_3) (hr1 : Kd.C (Kd.int .i64) w A1 l1.length l1) (hc1 : l1.length ≤ c1) (h : spec_l01Finer.f k a0_0 a0_1 l0_2 l0_3 l1 = some (r1, r2)) :
  Calls Tryd.prog 109 #[.pointer (some ⟨gp0, 0, none⟩), .slice A1 l1.length c1] w fun e w' => ∃ v0_ : Value, e = .returned (.tuple #[v0_, .int .i64 r2]) ∧ Kd.R (Kd.int .i64) 2 w' w.heap.size (fun _ => True) v0_ r1 ∧ Below w.heap.size w w' := by
 have HR0_2 := Aside0.mk hr0_2
 have HC0_2 := Aside0.mk hc0_2
 clear hr0_2 hc0_2
 have HR0_3 := Aside0.mk hr0_3
 have HC0_3 := Aside0.mk hc0_3
 clear hr0_3 hc0_3
 have HR1 := Aside0.mk hr1
 have HC1 := Aside0.mk hc1
 clear hr1 hc1
 have BK80 := Aside0.mk hb0
 clear hb0
 have HB := Aside0.mk (Below.refl w.heap.size w)
 have H : (if 0 ≤ (l1.length : Int) then (if ((l1.length : Int) : Int).toNat ≤ 35184372088832 then (spec_l01Finer.l0 k l1 (l1.length : Int) (List.replicate ((l1.length : Int) : Int).toNat 0) (([] : List Int)) 0 a0_0 a0_1 l0_2 l0_3) else (none)) else (none)) = some (r1, r2) := h
 clear h
 by_cases c3 : 0 ≤ (l1.length : Int)
 ·rw [if_pos c3] at H
  have c3b0 := eq_true c3
  have c3b1 : decide (0 ≤ (l1.length : Int)) = true := decide_eq_true c3
  clear c3
  by_cases c4 : ((l1.length : Int) : Int).toNat ≤ 35184372088832
  ·rw [if_pos c4] at H
   have c4b0 := eq_true c4
   have c4b1 : decide (((l1.length : Int) : Int).toNat ≤ 35184372088832) = true := decide_eq_true c4
   clear c4
   obtain ⟨y115, hy115⟩ : ∃ y_ : List Int, y_ = (List.replicate ((l1.length : Int) : Int).toNat 0) := ⟨_, rfl⟩
   replace H : (spec_l01Finer.l0 k l1 (l1.length : Int) y115 (([] : List Int)) 0 a0_0 a0_1 l0_2 l0_3) = some (r1, r2) := by first | (rw [hy115]; with_reducible exact H) | (have H2_ := (Option.bind_some _ _).symm.trans H; rw [hy115]; with_reducible exact H2_) | (have H2_ := (Option.bind_some _ _).symm.trans H; with_reducible exact H2_) | with_reducible exact H | (rw [hy115]; exact H) | exact H
   have Ny115 := Aside0.mk hy115
   clear hy115
   obtain ⟨y118, hy118⟩ : ∃ y_ : List Int, y_ = (([] : List Int)) := ⟨_, rfl⟩
   replace H : (spec_l01Finer.l0 k l1 (l1.length : Int) y115 y118 0 a0_0 a0_1 l0_2 l0_3) = some (r1, r2) := by first | (rw [hy118]; with_reducible exact H) | (have H2_ := (Option.bind_some _ _).symm.trans H; rw [hy118]; with_reducible exact H2_) | (have H2_ := (Option.bind_some _ _).symm.trans H; with_reducible exact H2_) | with_reducible exact H | (rw [hy118]; exact H) | exact H
   have Ny118 := Aside0.mk hy118
   clear hy118
   have H' := Aside0.mk H
   clear H
   go_enter Tryd.func109, Tryd.ntmps109
   go_wp2_with (first | ((with_reducible refine gate_dst (N := 14) rfl ?_); refine Kd.R_make (Kd.int .i64) _ 2 rfl (N := 14) rfl 86 _ _ rfl (l1.length : Int) rfl rfl Tryd.underlying86 (.int .i64 0) 8 info2 rfl (by decide) (by omega) 0 (ok := fun _ => True) (okp := fun _ => True) rfl (fun _ hk => hk) trivial (of_decide_eq_true (by first | (with_reducible assumption) | assumption)) (Nat.le_trans (Nat.mul_le_mul_right _ (of_decide_eq_true (by first | (with_reducible assumption) | assumption) : (l1.length : Int).toNat ≤ 35184372088832)) (by omega)) (Below.refl _ _) (Nat.le_refl _) ?_; intro v116 w5 ho6 hb hg_ hnew_; clear hg_ hnew_; (first | rw [← Ny115.out] at ho6 | (simp only [Int.reduceToNat] at ho6; rw [← Ny115.out] at ho6)); have n0_ := Aside0.mk (Kd.R_lower ho6 (below_size (by repeat (first | (with_reducible first | exact HB.out | apply below_alloc | apply pw_below_drewN | apply below_drew1 | refine below_set ?_ GE80.out) | exact HB.out)))); have n1_ := Aside0.mk (blk_below (g := gp0) (o := .cells #[.int .i64 a0_0, .int .i64 a0_1, .slice A0_2 l0_2.length c0_2, .slice A0_3 l0_3.length c0_3] 29 (0, 0)) (by (with_reducible repeat (first | refine blk_drewN ?_ _ | refine blk_drew ?_ | refine blk_alloc ?_ _)); exact BK80.out) hb); have n2_ := Aside0.mk (below_step (by repeat (first | (with_reducible first | exact HB.out | apply below_alloc | apply pw_below_drewN | apply below_drew1 | refine below_set ?_ GE80.out) | exact HB.out)) hb); clear BK80; clear HB; have HO117 := n0_; have BK80 := n1_; have HB := n2_; clear n0_ n1_ n2_; clear hb ho6) | ((with_reducible refine gate_dst (N := 15) rfl ?_); refine Kd.R_lit (Kd.int .i64) _ 2 ?hg (N := 15) ?hd (xs := ([] : List Int)) (inner := []) (ok := fun _ => True) (okp := fun _ => True) ?hr ?hp (fun _ hk => hk) trivial (Below.refl _ _) (Nat.le_refl _) (by simp) ?_; (case hd => rfl); (case hg => rfl); (case hr => first | (go_simp; done) | (go_simp; rfl)); (case hp => exact (Reps.none _ _)); intro v119 w7 ho8 hb hg_ hnew_; clear hg_ hnew_; (first | rw [← Ny118.out] at ho8 | (simp only [Int.reduceToNat] at ho8; rw [← Ny118.out] at ho8)); have n0_ := Aside0.mk (Kd.R_elder' (by (with_reducible repeat (first | apply Kd.R_alloc | apply Kd.R_drewN | apply Kd.R_drew)); exact HO117.out) (Kd.R_base ho8) hb); have n1_ := Aside0.mk (Kd.R_lower (Kd.R_new' ho8 (Kd.R_lt (by (with_reducible repeat (first | apply Kd.R_alloc | apply Kd.R_drewN | apply Kd.R_drew)); exact HO117.out))) (below_size (by repeat (first | (with_reducible first | exact HB.out | apply below_alloc | apply pw_below_drewN | apply below_drew1 | refine below_set ?_ GE80.out) | exact HB.out)))); have n2_ := Aside0.mk (blk_below (g := gp0) (o := .cells #[.int .i64 a0_0, .int .i64 a0_1, .slice A0_2 l0_2.length c0_2, .slice A0_3 l0_3.length c0_3] 29 (0, 0)) (by (with_reducible repeat (first | refine blk_drewN ?_ _ | refine blk_drew ?_ | refine blk_alloc ?_ _)); exact BK80.out) hb); have n3_ := Aside0.mk (below_step (by repeat (first | (with_reducible first | exact HB.out | apply below_alloc | apply pw_below_drewN | apply below_drew1 | refine below_set ?_ GE80.out) | exact HB.out)) hb); clear HO117; clear BK80; clear HB; have HO117 := n0_; have HO120 := n1_; have BK80 := n2_; have HB := n3_; clear n0_ n1_ n2_ n3_; clear hb ho8))
   go_loopg [8, 9] k (fun kq v8 v9 w' => ∃ (x7_1 : List Int) (x8_1 : List Int) (x9_1 : Int) (x81000_1 : Int) (x81001_1 : Int), v9 = .int .i64 x9_1 ∧ Aside0 (spec_l01Finer.l0 kq l1 (l1.length : Int) x7_1 x8_1 x9_1 x81000_1 x81001_1 l0_2 l0_3 = some (r1, r2)) ∧ Aside0 (kq ≤ k) ∧ Aside0 (Kd.R (Kd.int .i64) 2 w' w.heap.size (fun k_ => some k_ ≠ (v8 : Value).ownBlock) v116 x7_1) ∧ Aside0 (Kd.R (Kd.int .i64) 2 w' w.heap.size (fun k_ => some k_ ≠ (v116 : Value).ownBlock) v8 x8_1) ∧ Aside0 (w'.heap[gp0]? = some (.cells #[.int .i64 x81000_1, .int .i64 x81001_1, (.slice A0_2 l0_2.length c0_2), (.slice A0_3 l0_3.length c0_3)] 29 (0, 0))) ∧ Aside0 (Below w.heap.size w w'))
   case atStart => exact ⟨(y115), (y118), (0), (a0_0), (a0_1), (by first | rfl | (simp; done) | (simp [*]; done) | (simp [wrap64]; done)), H', ⟨Nat.le_refl _⟩, ⟨by (with_reducible repeat (first | apply Kd.R_alloc | apply Kd.R_drewN | apply Kd.R_drew)); exact Kd.R_mono HO117.out (fun _ hk => hk.2)⟩, ⟨by (with_reducible repeat (first | apply Kd.R_alloc | apply Kd.R_drewN | apply Kd.R_drew)); exact Kd.R_mono HO120.out (fun _ hk => hk.2)⟩, ⟨by (with_reducible repeat (first | refine blk_drewN ?_ _ | refine blk_drew ?_ | refine blk_alloc ?_ _)); exact BK80.out⟩, ⟨by repeat (first | (with_reducible first | exact HB.out | apply below_alloc | apply pw_below_drewN | apply below_drew1 | refine below_set ?_ GE80.out) | exact HB.out)⟩⟩
   case round =>
    clear H'
    try clear c1
    try clear p2
    try clear c3
    try clear c3b0
    try clear c3b1
    try clear c4
    try clear c4b0
    try clear c4b1
    try clear p6
    obtain ⟨x7_1, x8_1, x9_1, x81000_1, x81001_1, rfl, HA, HK1, HO_7, HO_8, BK80, HB⟩ := hrel
    cases gk with
    | zero => exact absurd HA.out (by simp [spec_l01Finer.l0])
    | succ k1 =>
     have H := HA.out
     clear HA
     simp only [spec_l01Finer.l0] at H
     by_cases c9 : x9_1 < (l1.length : Int)
     ·rw [if_pos c9] at H
      have c9b0 : decide (x9_1 < (l1.length : Int)) = true := decide_eq_true c9
      clear c9
      by_cases c10 : 0 ≤ x9_1
      ·rw [if_pos c10] at H
       have c10b0 : decide (0 ≤ x9_1) = true := decide_eq_true c10
       clear c10
       by_cases c11 : x9_1 < (x7_1.length : Int)
       ·rw [if_pos c11] at H
        have c11b0 : decide (x9_1 < (x7_1.length : Int)) = true := decide_eq_true c11
        clear c11
        obtain ⟨y121, hy121⟩ : ∃ y_ : List Int, y_ = (x7_1.set (x9_1 : Int).toNat (-1)) := ⟨_, rfl⟩
        replace H : (spec_l01Finer.l1 k1 l1 (l1.length : Int) y121 x8_1 x9_1 0 x81000_1 x81001_1 l0_2 l0_3) = some (r1, r2) := by first | (rw [hy121]; with_reducible exact H) | (have H2_ := (Option.bind_some _ _).symm.trans H; rw [hy121]; with_reducible exact H2_) | (have H2_ := (Option.bind_some _ _).symm.trans H; with_reducible exact H2_) | with_reducible exact H | (rw [hy121]; exact H) | exact H
        have Ny121 := Aside0.mk hy121
        clear hy121
        have H' := Aside0.mk H
        clear H
        have p12 : 0 ≤ (x9_1 : Int) := of_decide_eq_true (by first | (with_reducible assumption) | assumption)
        have q12 : (x9_1 : Int) < ((x7_1.length : Int) : Int) := of_decide_eq_true (by first | (with_reducible assumption) | assumption)
        obtain ⟨go12, co12, eo12, gb12, gl12, cl12, HG12⟩ := Kd.R_form HO_7.out (by omega)
        (first | cases eo12 | (injection eo12 with ea_ en_ ec_; (first | subst ea_ | (injection ea_ with ea_; subst ea_)); subst ec_; clear en_))
        have GB12 := Aside0.mk gb12
        have GG12 := Aside0.mk HG12
        clear gb12 gl12 HG12
        obtain ⟨hx12_0, hf12_0⟩ := Kd.R_celln 0 HO_7.out (x9_1 : Int) p12 q12
        replace p12 := eq_true p12
        replace q12 := eq_true q12
        have HP13 := Kd.R_putg HO_7.out (x9_1 : Int) (-1)
        go_wp2_with (first | ((with_reducible refine gate_store (t := 2) (p := 23) rfl ?_); refine store_event (t := 2) (p := 23) (v := ?vo_w14) (w1 := (wr.setCell ⟨go12, (x9_1 : Int).toNat, none⟩ (.int .i64 (-1)))) ?hg ?ho ?hn ?hr ?_; (case ho => rfl); (case hg => rfl); (case hn => rfl); (case hr => first | (go_simp; done) | (go_simp; rfl)); intro w14 hw; have hg : wr.grownBy w14 (some go12) := (by rw [hw]; exact HP13.2); have hp_ : Kd.R (Kd.int .i64) 2 w14 w.heap.size (fun k_ => some k_ ≠ (u8 : Value).ownBlock) (.slice (some ⟨go12, 0, none⟩) x7_1.length co12) y121 := (by rw [hw, Ny121.out]; exact HP13.1); clear HP13; have n0_ := Aside0.mk (hp_); have n1_ := Aside0.mk (Kd.R_after (v := (.slice (some ⟨go12, 0, none⟩) x7_1.length co12)) (v1 := (.slice (some ⟨go12, 0, none⟩) x7_1.length co12)) (ok := (fun _ => True)) (by (with_reducible repeat (first | apply Kd.R_alloc | apply Kd.R_drewN | apply Kd.R_drew)); exact Kd.R_mono HO_8.out (fun _ hk => ⟨trivial, hk⟩)) hg (.inl rfl)); have n2_ := Aside0.mk (blk_grown (g := gp0) (o := .cells #[.int .i64 x81000_1, .int .i64 x81001_1, .slice A0_2 l0_2.length c0_2, .slice A0_3 l0_3.length c0_3] 29 (0, 0)) (by (with_reducible repeat (first | refine blk_drewN ?_ _ | refine blk_drew ?_ | refine blk_alloc ?_ _)); exact BK80.out) hg (Kd.R_ne HO_7.out BK80.out (by decide))); have n3_ := Aside0.mk ((by rw [hw]; exact below_set (HB.out) GB12.out : Below w.heap.size w w14)); clear HO_7; clear HO_8; clear BK80; clear HB; have HO_7 := n0_; have HO_8 := n1_; have BK80 := n2_; have HB := n3_; clear n0_ n1_ n2_ n3_; clear hg hw hp_))
        go_loopg [10] k1 (fun kq v10 w' => ∃ (x7_2 : List Int) (x10_2 : Int) (x81000_2 : Int) (x81001_2 : Int), v10 = .int .i64 x10_2 ∧ Aside0 (spec_l01Finer.l1 kq l1 (l1.length : Int) x7_2 x8_1 x9_1 x10_2 x81000_2 x81001_2 l0_2 l0_3 = some (r1, r2)) ∧ Aside0 (kq ≤ k1) ∧ Aside0 (Kd.R (Kd.int .i64) 2 w' w.heap.size (fun k_ => some k_ ≠ (u8 : Value).ownBlock) (.slice (some ⟨go12, 0, none⟩) x7_1.length co12) x7_2) ∧ Aside0 (Kd.R (Kd.int .i64) 2 w' w.heap.size (fun k_ => some k_ ≠ ((.slice (some ⟨go12, 0, none⟩) x7_1.length co12) : Value).ownBlock) u8 x8_1) ∧ Aside0 (w'.heap[gp0]? = some (.cells #[.int .i64 x81000_2, .int .i64 x81001_2, (.slice A0_2 l0_2.length c0_2), (.slice A0_3 l0_3.length c0_3)] 29 (0, 0))) ∧ Aside0 (Below w.heap.size w w'))
        case atStart => exact ⟨(y121), (0), (x81000_1), (x81001_1), (by first | rfl | (simp; done) | (simp [*]; done) | (simp [wrap64]; done)), H', ⟨Nat.le_refl _⟩, ⟨by (with_reducible repeat (first | apply Kd.R_alloc | apply Kd.R_drewN | apply Kd.R_drew)); exact HO_7.out⟩, ⟨by (with_reducible repeat (first | apply Kd.R_alloc | apply Kd.R_drewN | apply Kd.R_drew)); exact Kd.R_mono HO_8.out (fun _ hk => hk.2)⟩, ⟨by (with_reducible repeat (first | refine blk_drewN ?_ _ | refine blk_drew ?_ | refine blk_alloc ?_ _)); exact BK80.out⟩, ⟨by repeat (first | (with_reducible first | exact HB.out | apply below_alloc | apply pw_below_drewN | apply below_drew1 | refine below_set ?_ GE80.out) | exact HB.out)⟩⟩
        case round =>
         clear H'
         try clear c1
         try clear p1
         try clear q1
         try clear hx1
         try clear p2
         try clear c3
         try clear c3b0
         try clear c3b1
         try clear c4
         try clear c4b0
         try clear c4b1
         try clear p6
         try clear c9
         try clear c9b0
         try clear c10
         try clear c10b0
         try clear c11
         try clear c11b0
         try clear p12
         try clear q12
         try clear hx12
         try clear hf12
         try clear hx12_0
         try clear p12
         try clear p2
         try clear p6
         try clear q12
         obtain ⟨x7_2, x10_2, x81000_2, x81001_2, rfl, HA, HK2, HO_7, HO_8, BK80, HB⟩ := hrel
         have hl7_2 := (Kd.R_reads' HO_7.out).1
         rw [hl7_2] at HO_7
         (try simp only [hl7_2])
         (try simp only [hl7_2] at BK80)
         (try simp only [hl7_2] at HO_8)
         cases gk with
         | zero => exact absurd HA.out (by simp [spec_l01Finer.l1])
         | succ k2 =>
          have H := HA.out
          clear HA
          simp only [spec_l01Finer.l1] at H
          have HC15 := Aside0.mk H
          clear H
          go_upto_region 9 with (fail)
          go_cut [34] (fun v34 wc => ∃ (kq : Nat) (x34_14 : Bool), v34 = .bool x34_14 ∧ Aside0 (spec_l01Finer.j2 kq l1 (l1.length : Int) x7_2 x8_1 x9_1 x10_2 x34_14 x81000_2 x81001_2 l0_2 l0_3 = some (r1, r2)) ∧ Aside0 (kq ≤ k2) ∧ Aside0 (Kd.R (Kd.int .i64) 2 wc w.heap.size (fun k_ => some k_ ≠ (u8 : Value).ownBlock) (.slice (some ⟨go12, 0, none⟩) x7_2.length co12) x7_2) ∧ Aside0 (Kd.R (Kd.int .i64) 2 wc w.heap.size (fun k_ => some k_ ≠ ((.slice (some ⟨go12, 0, none⟩) x7_2.length co12) : Value).ownBlock) u8 x8_1) ∧ Aside0 (wc.heap[gp0]? = some (.cells #[.int .i64 x81000_2, .int .i64 x81001_2, (.slice A0_2 l0_2.length c0_2), (.slice A0_3 l0_3.length c0_3)] 29 (0, 0))) ∧ Aside0 (Below w.heap.size w wc))
          case first =>
           have H := HC15.out
           clear HC15
           by_cases c16 : x10_2 < (x8_1.length : Int)
           ·rw [if_pos c16] at H
            have c16b0 : decide (x10_2 < (x8_1.length : Int)) = true := decide_eq_true c16
            clear c16
            (first | rw [c16b0] | (simp only [i64_w, i32_w]; rw [c16b0]) | skip)
            by_cases c17 : 0 ≤ x9_1
            ·rw [if_pos c17] at H
             have c17b0 : decide (0 ≤ x9_1) = true := decide_eq_true c17
             clear c17
             by_cases c18 : x9_1 < (x7_2.length : Int)
             ·rw [if_pos c18] at H
              have c18b0 : decide (x9_1 < (x7_2.length : Int)) = true := decide_eq_true c18
              clear c18
              have H' := Aside0.mk H
              clear H
              obtain ⟨Ao19, co19, eo19⟩ := Kd.R_slice HO_8.out
              subst eo19
              have p122 : 0 ≤ (x9_1 : Int) := of_decide_eq_true (by first | (with_reducible assumption) | assumption)
              have q122 : x9_1 < (x7_2.length : Int) := of_decide_eq_true (by first | (with_reducible assumption) | assumption)
              obtain ⟨ad122, e122, hx122_0⟩ := Kd.at_int (Kd.R_reads' HO_7.out).2.2 x9_1 p122 q122
              obtain rfl : (⟨go12, 0, none⟩ : Addr) = ad122 := (by injection e122)
              (first | simp only [add_plain] at hx122_0 | simp only [add_at] at hx122_0 | simp only [Addr.add, Nat.zero_add] at hx122_0 | skip)
              replace p122 := eq_true p122
              replace q122 := eq_true q122
              go_wp2
              go_meet
              case rel => exact ⟨_, (decide ((rd x7_2 x9_1) < 0)), (by first | rfl | (simp; done) | (simp [*]; done) | (simp [wrap64]; done)), H', ⟨by have := HK1.out; have := HK2.out; first | omega | exact Nat.le_refl _⟩, ⟨by (try simp only [hl7_2]); (with_reducible repeat (first | apply Kd.R_alloc | apply Kd.R_drewN | apply Kd.R_drew)); exact HO_7.out⟩, ⟨by (try simp only [hl7_2]); (with_reducible repeat (first | apply Kd.R_alloc | apply Kd.R_drewN | apply Kd.R_drew)); exact HO_8.out⟩, ⟨by (try simp only [hl7_2]); (with_reducible repeat (first | refine blk_drewN ?_ _ | refine blk_drew ?_ | refine blk_alloc ?_ _)); exact BK80.out⟩, ⟨by repeat (first | (with_reducible first | exact HB.out | apply below_alloc | apply pw_below_drewN | apply below_drew1 | refine below_set ?_ GE80.out) | exact HB.out)⟩⟩
             ·rw [if_neg c18] at H
              exact absurd H (by simp)
            ·rw [if_neg c17] at H
             exact absurd H (by simp)
           ·rw [if_neg c16] at H
            have c16b0 : decide (x10_2 < (x8_1.length : Int)) = false := decide_eq_false c16
            clear c16
            (first | rw [c16b0] | (simp only [i64_w, i32_w]; rw [c16b0]) | skip)
            have H' := Aside0.mk H
            clear H
            obtain ⟨Ao20, co20, eo20⟩ := Kd.R_slice HO_8.out
            subst eo20
            go_wp2
            go_meet
            case rel => exact ⟨_, (false), (by first | rfl | (simp; done) | (simp [*]; done) | (simp [wrap64]; done)), H', ⟨by have := HK1.out; have := HK2.out; first | omega | exact Nat.le_refl _⟩, ⟨by (try simp only [hl7_2]); (with_reducible repeat (first | apply Kd.R_alloc | apply Kd.R_drewN | apply Kd.R_drew)); exact HO_7.out⟩, ⟨by (try simp only [hl7_2]); (with_reducible repeat (first | apply Kd.R_alloc | apply Kd.R_drewN | apply Kd.R_drew)); exact HO_8.out⟩, ⟨by (try simp only [hl7_2]); (with_reducible repeat (first | refine blk_drewN ?_ _ | refine blk_drew ?_ | refine blk_alloc ?_ _)); exact BK80.out⟩, ⟨by repeat (first | (with_reducible first | exact HB.out | apply below_alloc | apply pw_below_drewN | apply below_drew1 | refine below_set ?_ GE80.out) | exact HB.out)⟩⟩
          case rest =>
           clear HC15
           try clear c1
           try clear p1
           try clear q1
           try clear hx1
           try clear p2
           try clear c3
           try clear c3b0
           try clear c3b1
           try clear c4
           try clear c4b0
           try clear c4b1
           try clear p6
           try clear c9
           try clear c9b0
           try clear c10
           try clear c10b0
           try clear c11
           try clear c11b0
           try clear p12
           try clear q12
           try clear hx12
           try clear hf12
           try clear c16
           try clear c16b0
           try clear c17
           try clear c17b0
           try clear c18
           try clear c18b0
           try clear hx122_0
           try clear hx12_0
           try clear p1
           try clear p12
           try clear p122
           try clear p2
           try clear p6
           try clear q1
           try clear q12
           try clear q122
           obtain ⟨kq, x34_14, rfl, HA, HJ14, HO_7, HO_8, BK80, HB⟩ := hcut
           cases kq with
           | zero => exact absurd HA.out (by simp [spec_l01Finer.j2])
           | succ kj14 =>
            have H := HA.out
            clear HA
            simp only [spec_l01Finer.j2] at H
            by_cases c21 : x34_14 = true
            ·subst c21
             have H1 : (if 0 ≤ x10_2 then (if x10_2 < (x8_1.length : Int) then (if 0 ≤ (rd x8_1 x10_2) then (if (rd x8_1 x10_2) < (l1.length : Int) then (if 0 ≤ x9_1 then (if x9_1 < (l1.length : Int) then (if (rd l1 (rd x8_1 x10_2)) = (rd l1 x9_1) then ((spec_l01Alike.f kj14 x81000_2 x81001_2 l0_2 l0_3 l1 (rd x8_1 x10_2) x9_1).bind fun t127 => (if t127 = true then (if x9_1 < (x7_2.length : Int) then (spec_l01Finer.l1 kj14 l1 (l1.length : Int) (x7_2.set (x9_1 : Int).toNat x10_2) x8_1 x9_1 (wrap64 (x10_2 + 1)) x81000_2 x81001_2 l0_2 l0_3) else (none)) else (spec_l01Finer.l1 kj14 l1 (l1.length : Int) x7_2 x8_1 x9_1 (wrap64 (x10_2 + 1)) x81000_2 x81001_2 l0_2 l0_3))) else (spec_l01Finer.l1 kj14 l1 (l1.length : Int) x7_2 x8_1 x9_1 (wrap64 (x10_2 + 1)) x81000_2 x81001_2 l0_2 l0_3)) else (none)) else (none)) else (none)) else (none)) else (none)) else (none)) = some (r1, r2) := by rw [if_pos rfl] at H; exact H
             clear H
             have H := H1
             clear H1
             by_cases c22 : 0 ≤ x10_2
             ·rw [if_pos c22] at H
              have c22b0 : decide (0 ≤ x10_2) = true := decide_eq_true c22
              clear c22
              by_cases c23 : x10_2 < (x8_1.length : Int)
              ·rw [if_pos c23] at H
               have c23b0 : decide (x10_2 < (x8_1.length : Int)) = true := decide_eq_true c23
               clear c23
               by_cases c24 : 0 ≤ (rd x8_1 x10_2)
               ·rw [if_pos c24] at H
                have c24b0 : decide (0 ≤ (rd x8_1 x10_2)) = true := decide_eq_true c24
                clear c24
                by_cases c25 : (rd x8_1 x10_2) < (l1.length : Int)
                ·rw [if_pos c25] at H
                 have c25b0 : decide ((rd x8_1 x10_2) < (l1.length : Int)) = true := decide_eq_true c25
                 clear c25
                 by_cases c26 : 0 ≤ x9_1
                 ·rw [if_pos c26] at H
                  have c26b0 : decide (0 ≤ x9_1) = true := decide_eq_true c26
                  clear c26
                  by_cases c27 : x9_1 < (l1.length : Int)
                  ·rw [if_pos c27] at H
                   have c27b0 : decide (x9_1 < (l1.length : Int)) = true := decide_eq_true c27
                   clear c27
                   by_cases c28 : (rd l1 (rd x8_1 x10_2)) = (rd l1 x9_1)
                   ·rw [if_pos c28] at H
                    have c28b0 : ((rd l1 (rd x8_1 x10_2)) == (rd l1 x9_1)) = true := beq_iff_eq.mpr c28
                    have c28b1 : ((rd l1 (rd x8_1 x10_2)) != (rd l1 x9_1)) = false := bne_eq_false_iff_eq.mpr c28
                    clear c28
                    replace H := Option.bind_eq_some_iff.mp H
                    obtain ⟨t127, A290, H⟩ := H
                    replace H : (if t127 = true then (if x9_1 < (x7_2.length : Int) then (spec_l01Finer.l1 kj14 l1 (l1.length : Int) (x7_2.set (x9_1 : Int).toNat x10_2) x8_1 x9_1 (wrap64 (x10_2 + 1)) x81000_2 x81001_2 l0_2 l0_3) else (none)) else (spec_l01Finer.l1 kj14 l1 (l1.length : Int) x7_2 x8_1 x9_1 (wrap64 (x10_2 + 1)) x81000_2 x81001_2 l0_2 l0_3)) = some (r1, r2) := H
                    have A29 := Aside0.mk A290
                    clear A290
                    by_cases c30 : t127 = true
                    ·subst c30
                     have H1 : (if x9_1 < (x7_2.length : Int) then (spec_l01Finer.l1 kj14 l1 (l1.length : Int) (x7_2.set (x9_1 : Int).toNat x10_2) x8_1 x9_1 (wrap64 (x10_2 + 1)) x81000_2 x81001_2 l0_2 l0_3) else (none)) = some (r1, r2) := by rw [if_pos rfl] at H; exact H
                     clear H
                     have H := H1
                     clear H1
                     by_cases c31 : x9_1 < (x7_2.length : Int)
                     ·rw [if_pos c31] at H
                      have c31b0 : decide (x9_1 < (x7_2.length : Int)) = true := decide_eq_true c31
                      clear c31
                      obtain ⟨y128, hy128⟩ : ∃ y_ : List Int, y_ = (x7_2.set (x9_1 : Int).toNat x10_2) := ⟨_, rfl⟩
                      replace H : (spec_l01Finer.l1 kj14 l1 (l1.length : Int) y128 x8_1 x9_1 (wrap64 (x10_2 + 1)) x81000_2 x81001_2 l0_2 l0_3) = some (r1, r2) := by first | (rw [hy128]; with_reducible exact H) | (have H2_ := (Option.bind_some _ _).symm.trans H; rw [hy128]; with_reducible exact H2_) | (have H2_ := (Option.bind_some _ _).symm.trans H; with_reducible exact H2_) | with_reducible exact H | (rw [hy128]; exact H) | exact H
                      have Ny128 := Aside0.mk hy128
                      clear hy128
                      have H' := Aside0.mk H
                      clear H
                      try go_wp2
                      have n0_ := Aside0.mk (Kd.R_drew HO_7.out)
                      have n1_ := Aside0.mk (Kd.R_drew HO_8.out)
                      have n2_ := Aside0.mk (blk_drew BK80.out)
                      have n3_ := Aside0.mk (below_drew1 HB.out)
                      clear HO_7
                      clear HO_8
                      clear BK80
                      clear HB
                      have HO_7 := n0_
                      have HO_8 := n1_
                      have BK80 := n2_
                      have HB := n3_
                      clear n0_ n1_ n2_ n3_
                      obtain ⟨Ao34, co34, eo34⟩ := Kd.R_slice HO_8.out
                      (first | subst eo34 | (injection eo34 with f1_ f2_ f3_; have f4_ := f1_.symm; have f5_ := f3_.symm; clear f1_ f2_ f3_; subst f4_; subst f5_))
                      have p123 : 0 ≤ (x10_2 : Int) := of_decide_eq_true (by first | (with_reducible assumption) | assumption)
                      have q123 : x10_2 < (x8_1.length : Int) := of_decide_eq_true (by first | (with_reducible assumption) | assumption)
                      obtain ⟨ad123, e123, hx123_0⟩ := Kd.at_int (Kd.R_reads' HO_8.out).2.2 x10_2 p123 q123
                      cases e123
                      replace p123 := eq_true p123
                      replace q123 := eq_true q123
                      have p124 : 0 ≤ ((rd x8_1 x10_2) : Int) := of_decide_eq_true (by first | (with_reducible assumption) | assumption)
                      have q124 : (rd x8_1 x10_2) < (l1.length : Int) := of_decide_eq_true (by first | (with_reducible assumption) | assumption)
                      obtain ⟨ad124, e124, hx124_0⟩ := Kd.at_int HR1.out (rd x8_1 x10_2) p124 q124
                      have hw124_0 := hx124_0
                      cases e124
                      replace hx124_0 := (HB.out.cell (World.block_lt_of_cell? w _ hx124_0)).trans hx124_0
                      replace p124 := eq_true p124
                      replace q124 := eq_true q124
                      have p125 : 0 ≤ (x9_1 : Int) := of_decide_eq_true (by first | (with_reducible assumption) | assumption)
                      have q125 : x9_1 < (l1.length : Int) := of_decide_eq_true (by first | (with_reducible assumption) | assumption)
                      obtain ⟨ad125, e125, hx125_0⟩ := Kd.at_int HR1.out x9_1 p125 q125
                      have hw125_0 := hx125_0
                      obtain rfl : ad124 = ad125 := (by injection e125)
                      replace hx125_0 := (HB.out.cell (World.block_lt_of_cell? w _ hx125_0)).trans hx125_0
                      replace p125 := eq_true p125
                      replace q125 := eq_true q125
                      have p126 : 0 ≤ (x10_2 : Int) := of_decide_eq_true (by first | (with_reducible assumption) | assumption)
                      have q126 : x10_2 < (x8_1.length : Int) := of_decide_eq_true (by first | (with_reducible assumption) | assumption)
                      obtain ⟨ad126, e126, hx126_0⟩ := Kd.at_int (Kd.R_reads' HO_8.out).2.2 x10_2 p126 q126
                      obtain rfl : ad123 = ad126 := (by injection e126)
                      replace p126 := eq_true p126
                      replace q126 := eq_true q126
                      refine start_ (n := 22) (S := fun w' => w'.cell? (ad123.add (x10_2).toNat) = some (.int .i64 (rd x8_1 x10_2)) ∧ w'.cell? (ad124.add ((rd x8_1 x10_2)).toNat) = some (.int .i64 (rd l1 (rd x8_1 x10_2))) ∧ w'.cell? (ad124.add (x9_1).toNat) = some (.int .i64 (rd l1 x9_1)) ∧ w'.cell? (ad123.add (x10_2).toNat) = some (.int .i64 (rd x8_1 x10_2))) (ds := []) (.replicate 22 false) (by kernel_rfl) rfl rfl ⟨hx123_0, ((HB.out.cell (World.block_lt_of_cell? w _ hw124_0)).trans hw124_0), ((HB.out.cell (World.block_lt_of_cell? w _ hw125_0)).trans hw125_0), hx126_0⟩ (fun hHeld => ?_); refine with_tabW spec_l01Finer.tab11 spec_l01Finer.bits11 (fun HT_ HW_ => ?_)
                      generalize wc.drew = w33 at HO_7 HO_8 BK80 HB hx123_0 hx124_0 hx125_0 hx126_0 hHeld ⊢
                      refine pure_ (i := 0) (N := some 37) (v := ?_) (a' := ?_) (zb 22 1) rfl rfl (any_of HT_.out (by kernel_rfl)) (fun _ _ _ h => h) (Or.inl ⟨by rfl, ?_⟩) ?_ ?_
                      rotate_left
                      ·intro w'
                       go_simp
                       with_reducible rfl
                      rotate_left
                      ·simp only [Act.put, Za, Zb, Zc, i64_w, i32_w]
                       rfl
                      refine pure_ (i := 1) (N := some 38) (v := ?_) (a' := ?_) (zb 22 3) rfl rfl (any_of HT_.out (by kernel_rfl)) (fun _ _ _ h => h) (Or.inl ⟨by rfl, ?_⟩) ?_ ?_
                      rotate_left
                      ·intro w'
                       go_simp
                       with_reducible rfl
                      rotate_left
                      ·simp only [Act.put, Za, Zb, Zc, i64_w, i32_w]
                       rfl
                      refine pure_ (i := 2) (N := some 39) (v := ?_) (a' := ?_) (zb 22 7) rfl rfl (any_of HT_.out (by kernel_rfl)) (fun _ _ _ h => h) (Or.inl ⟨by rfl, ?_⟩) ?_ ?_
                      rotate_left
                      ·intro w'
                       go_simp
                       with_reducible rfl
                      rotate_left
                      ·simp only [Act.put, Za, Zb, Zc, i64_w, i32_w]
                       rfl
                      refine pure_ (i := 3) (N := some 40) (v := ?_) (a' := ?_) (zb 22 15) rfl rfl (any_of HT_.out (by kernel_rfl)) (fun _ _ _ h => h) (Or.inl ⟨by rfl, ?_⟩) ?_ ?_
                      rotate_left
                      ·intro w'
                       go_simp
                       with_reducible rfl
                      rotate_left
                      ·simp only [Act.put, Za, Zb, Zc, i64_w, i32_w]
                       rfl
                      refine pure_ (i := 7) (N := some 44) (v := ?_) (a' := ?_) (zb 22 143) rfl rfl (any_of HT_.out (by kernel_rfl)) (fun _ _ _ h => h) (Or.inl ⟨by rfl, ?_⟩) ?_ ?_
                      rotate_left
                      ·intro w'
                       go_simp
                       with_reducible rfl
                      rotate_left
                      ·simp only [Act.put, Za, Zb, Zc, i64_w, i32_w]
                       rfl
                      refine pure_ (i := 8) (N := some 45) (v := ?_) (a' := ?_) (zb 22 399) rfl rfl (any_of HT_.out (by kernel_rfl)) (fun _ _ _ h => h) (Or.inl ⟨by rfl, ?_⟩) ?_ ?_
                      rotate_left
                      ·intro w'
                       go_simp
                       with_reducible rfl
                      rotate_left
                      ·simp only [Act.put, Za, Zb, Zc, i64_w, i32_w]
                       rfl
                      refine pure_ (i := 9) (N := some 46) (v := ?_) (a' := ?_) (zb 22 911) rfl rfl (any_of HT_.out (by kernel_rfl)) (fun _ _ _ h => h) (Or.inl ⟨by rfl, ?_⟩) ?_ ?_
                      rotate_left
                      ·intro w'
                       go_simp
                       with_reducible rfl
                      rotate_left
                      ·simp only [Act.put, Za, Zb, Zc, i64_w, i32_w]
                       rfl
                      refine take_ (i := 4) (N := some 41) (v := ?_) (a' := ?_) (zb 22 927) rfl rfl (take_ofW HT_.out HW_.out (by kernel_rfl)) (fun _ _ _ h => h) (Or.inl ⟨by rfl, ?_⟩) hHeld ?_ ?_
                      rotate_left
                      ·rintro w' ⟨s0, s1, s2, s3⟩
                       go_simp
                       with_reducible rfl
                      rotate_left
                      ·simp only [Act.put, Za, Zb, Zc, i64_w, i32_w]
                       rfl
                      refine pure_ (i := 5) (N := some 42) (v := ?_) (a' := ?_) (zb 22 959) rfl rfl (any_of HT_.out (by kernel_rfl)) (fun _ _ _ h => h) (Or.inl ⟨by rfl, ?_⟩) ?_ ?_
                      rotate_left
                      ·intro w'
                       go_simp
                       with_reducible rfl
                      rotate_left
                      ·simp only [Act.put, Za, Zb, Zc, i64_w, i32_w]
                       rfl
                      refine take_ (i := 6) (N := some 43) (v := ?_) (a' := ?_) (zb 22 1023) rfl rfl (take_ofW HT_.out HW_.out (by kernel_rfl)) (fun _ _ _ h => h) (Or.inl ⟨by rfl, ?_⟩) hHeld ?_ ?_
                      rotate_left
                      ·rintro w' ⟨s0, s1, s2, s3⟩
                       go_simp
                       with_reducible rfl
                      rotate_left
                      ·simp only [Act.put, Za, Zb, Zc, i64_w, i32_w]
                       rfl
                      refine take_ (i := 10) (N := some 47) (v := ?_) (a' := ?_) (zb 22 2047) rfl rfl (take_ofW HT_.out HW_.out (by kernel_rfl)) (fun _ _ _ h => h) (Or.inl ⟨by rfl, ?_⟩) hHeld ?_ ?_
                      rotate_left
                      ·rintro w' ⟨s0, s1, s2, s3⟩
                       go_simp
                       with_reducible rfl
                      rotate_left
                      ·simp only [Act.put, Za, Zb, Zc, i64_w, i32_w]
                       rfl
                      refine pure_ (i := 11) (N := some 48) (v := ?_) (a' := ?_) (zb 22 4095) rfl rfl (any_of HT_.out (by kernel_rfl)) (fun _ _ _ h => h) (Or.inl ⟨by rfl, ?_⟩) ?_ ?_
                      rotate_left
                      ·intro w'
                       go_simp
                       with_reducible rfl
                      rotate_left
                      ·simp only [Act.put, Za, Zb, Zc, i64_w, i32_w]
                       rfl
                      refine pure_ (i := 12) (N := some 49) (v := ?_) (a' := ?_) (zb 22 8191) rfl rfl (any_of HT_.out (by kernel_rfl)) (fun _ _ _ h => h) (Or.inl ⟨by rfl, ?_⟩) ?_ ?_
                      rotate_left
                      ·intro w'
                       go_simp
                       with_reducible rfl
                      rotate_left
                      ·simp only [Act.put, Za, Zb, Zc, i64_w, i32_w]
                       rfl
                      refine pure_ (i := 13) (N := some 50) (v := ?_) (a' := ?_) (zb 22 16383) rfl rfl (any_of HT_.out (by kernel_rfl)) (fun _ _ _ h => h) (Or.inl ⟨by rfl, ?_⟩) ?_ ?_
                      rotate_left
                      ·intro w'
                       go_simp
                       with_reducible rfl
                      rotate_left
                      ·simp only [Act.put, Za, Zb, Zc, i64_w, i32_w]
                       rfl
                      refine pure_ (i := 14) (N := some 51) (v := ?_) (a' := ?_) (zb 22 32767) rfl rfl (any_of HT_.out (by kernel_rfl)) (fun _ _ _ h => h) (Or.inl ⟨by rfl, ?_⟩) ?_ ?_
                      rotate_left
                      ·intro w'
                       go_simp
                       with_reducible rfl
                      rotate_left
                      ·simp only [Act.put, Za, Zb, Zc, i64_w, i32_w]
                       rfl
                      refine pure_ (i := 15) (N := some 52) (v := ?_) (a' := ?_) (zb 22 65535) rfl rfl (any_of HT_.out (by kernel_rfl)) (fun _ _ _ h => h) (Or.inl ⟨by rfl, ?_⟩) ?_ ?_
                      rotate_left
                      ·intro w'
                       go_simp
                       with_reducible rfl
                      rotate_left
                      ·simp only [Act.put, Za, Zb, Zc, i64_w, i32_w]
                       rfl
                      refine pure_ (i := 16) (N := some 53) (v := ?_) (a' := ?_) (zb 22 131071) rfl rfl (any_of HT_.out (by kernel_rfl)) (fun _ _ _ h => h) (Or.inl ⟨by rfl, ?_⟩) ?_ ?_
                      rotate_left
                      ·intro w'
                       go_simp
                       with_reducible rfl
                      rotate_left
                      ·simp only [Act.put, Za, Zb, Zc, i64_w, i32_w]
                       rfl
                      refine pure_ (i := 17) (N := some 54) (v := ?_) (a' := ?_) (zb 22 262143) rfl rfl (any_of HT_.out (by kernel_rfl)) (fun _ _ _ h => h) (Or.inl ⟨by rfl, ?_⟩) ?_ ?_
                      rotate_left
                      ·intro w'
                       go_simp
                       with_reducible rfl
                      rotate_left
                      ·simp only [Act.put, Za, Zb, Zc, i64_w, i32_w]
                       rfl
                      refine pure_ (i := 19) (N := some 56) (v := ?_) (a' := ?_) (zb 22 786431) rfl rfl (any_of HT_.out (by kernel_rfl)) (fun _ _ _ h => h) (Or.inl ⟨by rfl, ?_⟩) ?_ ?_
                      rotate_left
                      ·intro w'
                       go_simp
                       with_reducible rfl
                      rotate_left
                      ·simp only [Act.put, Za, Zb, Zc, i64_w, i32_w]
                       rfl
                      refine take_ (i := 18) (N := some 55) (v := ?_) (a' := ?_) (zb 22 1048575) rfl rfl (take_ofW HT_.out HW_.out (by kernel_rfl)) (fun _ _ _ h => h) (Or.inl ⟨by rfl, ?_⟩) hHeld ?_ ?_
                      rotate_left
                      ·rintro w' ⟨s0, s1, s2, s3⟩
                       go_simp
                       with_reducible rfl
                      rotate_left
                      ·simp only [Act.put, Za, Zb, Zc, i64_w, i32_w]
                       rfl
                      refine one_ (i := 20) (N := some 57) (zb 22 2097151) rfl rfl (one_of HT_.out (by kernel_rfl)) (by decide) (fun K hK => ?_)
                      refine goes_ Tryd.func158 (by kernel_rfl) rfl #[.pointer (some ⟨gp0, 0, none⟩), .slice (some ad124) l1.length c1, .int .i64 (rd x8_1 x10_2), .int .i64 x9_1] (by rfl) rfl rfl (by (try simp only [List.map_toArray, List.map_cons, List.map_nil]); first | done | rfl | (simp only [List.length_drop, List.length_take]; rfl)) ?_
                      with_reducible refine (spec_l01Alike.calls kj14 gp0 x81000_2 x81001_2 A0_2 c0_2 l0_2 A0_3 c0_3 l0_3 _ _ l1 (rd x8_1 x10_2) x9_1 true _ ?side1 ?side2 ?side3 ?side4 ?side5 ?side6 ?side7 A29.out).mono ?_
                      (case side1 => (with_reducible repeat (first | refine blk_drewN ?_ _ | refine blk_drew ?_ | refine blk_alloc ?_ _)); exact BK80.out)
                      (case side2 => repeat (first | exact (Kd.C_below HR0_2.out HB.out) | (with_reducible refine Kd.C_alloc ?_ _) | (with_reducible refine Kd.C_drewN ?_ _) | (with_reducible refine Kd.C_drew ?_)))
                      (case side3 => exact HC0_2.out)
                      (case side4 => repeat (first | exact (Kd.C_below HR0_3.out HB.out) | (with_reducible refine Kd.C_alloc ?_ _) | (with_reducible refine Kd.C_drewN ?_ _) | (with_reducible refine Kd.C_drew ?_)))
                      (case side5 => exact HC0_3.out)
                      (case side6 => repeat (first | exact (Kd.C_below HR1.out HB.out) | (with_reducible refine Kd.C_alloc ?_ _) | (with_reducible refine Kd.C_drewN ?_ _) | (with_reducible refine Kd.C_drew ?_)))
                      (case side7 => exact HC1.out)
                      rintro e w35 ⟨rfl, hb⟩
                      have HS0_ := (hb.cell (World.block_lt_of_cell? _ _ (hHeld.1))).trans (hHeld.1)
                      have HS3_ := (hb.cell (World.block_lt_of_cell? _ _ (hHeld.2.2.2))).trans (hHeld.2.2.2)
                      refine ⟨_, rfl, ?_⟩
                      have n0_ := Aside0.mk (Kd.R_below (by (with_reducible repeat (first | apply Kd.R_alloc | apply Kd.R_drewN | apply Kd.R_drew)); exact HO_7.out) hb)
                      have n1_ := Aside0.mk (Kd.R_below (by (with_reducible repeat (first | apply Kd.R_alloc | apply Kd.R_drewN | apply Kd.R_drew)); exact HO_8.out) hb)
                      have n2_ := Aside0.mk (blk_below (g := gp0) (o := .cells #[.int .i64 x81000_2, .int .i64 x81001_2, .slice A0_2 l0_2.length c0_2, .slice A0_3 l0_3.length c0_3] 29 (0, 0)) (by (with_reducible repeat (first | refine blk_drewN ?_ _ | refine blk_drew ?_ | refine blk_alloc ?_ _)); exact BK80.out) hb)
                      have n3_ := Aside0.mk (below_step (by repeat (first | (with_reducible first | exact HB.out | apply below_alloc | apply pw_below_drewN | apply below_drew1 | refine below_set ?_ GE80.out) | exact HB.out)) hb)
                      clear HO_7
                      clear HO_8
                      clear BK80
                      clear HB
                      have HO_7 := n0_
                      have HO_8 := n1_
                      have BK80 := n2_
                      have HB := n3_
                      clear n0_ n1_ n2_ n3_
                      (try clear hb)
                      (try clear hb2)
                      (try clear hk)
                      (try clear hi)
                      refine hK.out _ _ ⟨HS0_, ((HB.out.cell (World.block_lt_of_cell? w _ hw124_0)).trans hw124_0), ((HB.out.cell (World.block_lt_of_cell? w _ hw125_0)).trans hw125_0), HS3_⟩ (fun hHeld => ?_)
                      clear hK K
                      refine norm_ (a' := ?_) ?_ ?_
                      rotate_left
                      ·show Act.put _ (some 57) _ = _
                       simp only [Act.put, Za, Zb, Zc, i64_w, i32_w]
                       rfl
                      refine pure_ (i := 21) (N := some 58) (v := ?_) (a' := ?_) (zb 22 4194303) rfl rfl (any_of HT_.out (by kernel_rfl)) (fun _ _ _ h => h) (Or.inl ⟨by rfl, ?_⟩) ?_ ?_
                      rotate_left
                      ·intro w'
                       go_simp
                       with_reducible rfl
                      rotate_left
                      ·simp only [Act.put, Za, Zb, Zc, i64_w, i32_w]
                       rfl
                      refine done_ (done_of HT_.out (by kernel_rfl)) ?_
                      have p32 : 0 ≤ (x9_1 : Int) := of_decide_eq_true (by first | (with_reducible assumption) | assumption)
                      have q32 : (x9_1 : Int) < ((x7_2.length : Int) : Int) := of_decide_eq_true (by first | (with_reducible assumption) | assumption)
                      obtain ⟨hx32_0, hf32_0⟩ := Kd.R_celln 0 HO_7.out (x9_1 : Int) p32 q32
                      replace p32 := eq_true p32
                      replace q32 := eq_true q32
                      obtain ⟨hy36_, hz36_⟩ := Kd.R_celln 0 HO_7.out (x9_1 : Int) (of_decide_eq_true (by first | (with_reducible assumption) | assumption)) (of_decide_eq_true (by first | (with_reducible assumption) | assumption))
                      have HP36 := Kd.R_putg HO_7.out (x9_1 : Int) x10_2
                      try go_wp2_with (first | ((with_reducible refine gate_store (t := 2) (p := 62) rfl ?_); refine store_event (t := 2) (p := 62) (v := ?vo_w37) (w1 := (w35.setCell ⟨go12, (x9_1 : Int).toNat, none⟩ (.int .i64 x10_2))) ?hg ?ho ?hn ?hr ?_; (case ho => rfl); (case hg => rfl); (case hn => rfl); (case hr => first | (go_simp; done) | (go_simp; rfl)); intro w37 hw; have hg : w35.grownBy w37 (some go12) := (by rw [hw]; exact HP36.2); have hp_ : Kd.R (Kd.int .i64) 2 w37 w.heap.size (fun k_ => some k_ ≠ (.slice (some ad123) x8_1.length co34 : Value).ownBlock) (.slice (some ⟨go12, 0, none⟩) x7_2.length co12) y128 := (by rw [hw, Ny128.out]; exact HP36.1); clear HP36; have n0_ := Aside0.mk (hp_); have n1_ := Aside0.mk (Kd.R_after (v := (.slice (some ⟨go12, 0, none⟩) x7_2.length co12)) (v1 := (.slice (some ⟨go12, 0, none⟩) x7_2.length co12)) (ok := (fun _ => True)) (by (with_reducible repeat (first | apply Kd.R_alloc | apply Kd.R_drewN | apply Kd.R_drew)); exact Kd.R_mono HO_8.out (fun _ hk => ⟨trivial, hk⟩)) hg (.inl rfl)); have n2_ := Aside0.mk (blk_grown (g := gp0) (o := .cells #[.int .i64 x81000_2, .int .i64 x81001_2, .slice A0_2 l0_2.length c0_2, .slice A0_3 l0_3.length c0_3] 29 (0, 0)) (by (with_reducible repeat (first | refine blk_drewN ?_ _ | refine blk_drew ?_ | refine blk_alloc ?_ _)); exact BK80.out) hg (Kd.R_ne HO_7.out BK80.out (by decide))); have n3_ := Aside0.mk ((by rw [hw]; exact below_set (HB.out) GB12.out : Below w.heap.size w w37)); clear HO_7; clear HO_8; clear BK80; clear HB; have HO_7 := n0_; have HO_8 := n1_; have BK80 := n2_; have HB := n3_; clear n0_ n1_ n2_ n3_; clear hg hw hp_))
                      (try simp only [← hl7_2])
                      go_roundg kj14
                      case measure => have := HK1.out; have := HK2.out; have := HJ14.out; omega
                      case rel => exact ⟨(y128), (wrap64 (x10_2 + 1)), (x81000_2), (x81001_2), (by first | rfl | (simp; done) | (simp [*]; done) | (simp [wrap64]; done)), H', ⟨by have := HK1.out; have := HK2.out; have := HJ14.out; omega⟩, ⟨by (try simp only [hl7_2]); (with_reducible repeat (first | apply Kd.R_alloc | apply Kd.R_drewN | apply Kd.R_drew)); exact HO_7.out⟩, ⟨by (try simp only [hl7_2]); (with_reducible repeat (first | apply Kd.R_alloc | apply Kd.R_drewN | apply Kd.R_drew)); exact Kd.R_mono HO_8.out (fun _ hk => hk.2)⟩, ⟨by (try simp only [hl7_2]); (with_reducible repeat (first | refine blk_drewN ?_ _ | refine blk_drew ?_ | refine blk_alloc ?_ _)); exact BK80.out⟩, ⟨by repeat (first | (with_reducible first | exact HB.out | apply below_alloc | apply pw_below_drewN | apply below_drew1 | refine below_set ?_ GE80.out) | exact HB.out)⟩⟩
                     ·rw [if_neg c31] at H
                      exact absurd H (by simp)
                    ·replace c30 := Bool.eq_false_iff.mpr c30
                     subst c30
                     have H1 : (spec_l01Finer.l1 kj14 l1 (l1.length : Int) x7_2 x8_1 x9_1 (wrap64 (x10_2 + 1)) x81000_2 x81001_2 l0_2 l0_3) = some (r1, r2) := by rw [if_neg (show ¬ (false = true) by decide)] at H; exact H
                     clear H
                     have H := H1
                     clear H1
                     have H' := Aside0.mk H
                     clear H
                     try go_wp2
                     have n0_ := Aside0.mk (Kd.R_drew HO_7.out)
                     have n1_ := Aside0.mk (Kd.R_drew HO_8.out)
                     have n2_ := Aside0.mk (blk_drew BK80.out)
                     have n3_ := Aside0.mk (below_drew1 HB.out)
                     clear HO_7
                     clear HO_8
                     clear BK80
                     clear HB
                     have HO_7 := n0_
                     have HO_8 := n1_
                     have BK80 := n2_
                     have HB := n3_
                     clear n0_ n1_ n2_ n3_
                     obtain ⟨Ao39, co39, eo39⟩ := Kd.R_slice HO_8.out
                     (first | subst eo39 | (injection eo39 with f1_ f2_ f3_; have f4_ := f1_.symm; have f5_ := f3_.symm; clear f1_ f2_ f3_; subst f4_; subst f5_))
                     have p123 : 0 ≤ (x10_2 : Int) := of_decide_eq_true (by first | (with_reducible assumption) | assumption)
                     have q123 : x10_2 < (x8_1.length : Int) := of_decide_eq_true (by first | (with_reducible assumption) | assumption)
                     obtain ⟨ad123, e123, hx123_0⟩ := Kd.at_int (Kd.R_reads' HO_8.out).2.2 x10_2 p123 q123
                     cases e123
                     replace p123 := eq_true p123
                     replace q123 := eq_true q123
                     have p124 : 0 ≤ ((rd x8_1 x10_2) : Int) := of_decide_eq_true (by first | (with_reducible assumption) | assumption)
                     have q124 : (rd x8_1 x10_2) < (l1.length : Int) := of_decide_eq_true (by first | (with_reducible assumption) | assumption)
                     obtain ⟨ad124, e124, hx124_0⟩ := Kd.at_int HR1.out (rd x8_1 x10_2) p124 q124
                     have hw124_0 := hx124_0
                     cases e124
                     replace hx124_0 := (HB.out.cell (World.block_lt_of_cell? w _ hx124_0)).trans hx124_0
                     replace p124 := eq_true p124
                     replace q124 := eq_true q124
                     have p125 : 0 ≤ (x9_1 : Int) := of_decide_eq_true (by first | (with_reducible assumption) | assumption)
                     have q125 : x9_1 < (l1.length : Int) := of_decide_eq_true (by first | (with_reducible assumption) | assumption)
                     obtain ⟨ad125, e125, hx125_0⟩ := Kd.at_int HR1.out x9_1 p125 q125
                     have hw125_0 := hx125_0
                     obtain rfl : ad124 = ad125 := (by injection e125)
                     replace hx125_0 := (HB.out.cell (World.block_lt_of_cell? w _ hx125_0)).trans hx125_0
                     replace p125 := eq_true p125
                     replace q125 := eq_true q125
                     have p126 : 0 ≤ (x10_2 : Int) := of_decide_eq_true (by first | (with_reducible assumption) | assumption)
                     have q126 : x10_2 < (x8_1.length : Int) := of_decide_eq_true (by first | (with_reducible assumption) | assumption)
                     obtain ⟨ad126, e126, hx126_0⟩ := Kd.at_int (Kd.R_reads' HO_8.out).2.2 x10_2 p126 q126
                     obtain rfl : ad123 = ad126 := (by injection e126)
                     replace p126 := eq_true p126
                     replace q126 := eq_true q126
                     refine start_ (n := 22) (S := fun w' => w'.cell? (ad123.add (x10_2).toNat) = some (.int .i64 (rd x8_1 x10_2)) ∧ w'.cell? (ad124.add ((rd x8_1 x10_2)).toNat) = some (.int .i64 (rd l1 (rd x8_1 x10_2))) ∧ w'.cell? (ad124.add (x9_1).toNat) = some (.int .i64 (rd l1 x9_1)) ∧ w'.cell? (ad123.add (x10_2).toNat) = some (.int .i64 (rd x8_1 x10_2))) (ds := []) (.replicate 22 false) (by kernel_rfl) rfl rfl ⟨hx123_0, ((HB.out.cell (World.block_lt_of_cell? w _ hw124_0)).trans hw124_0), ((HB.out.cell (World.block_lt_of_cell? w _ hw125_0)).trans hw125_0), hx126_0⟩ (fun hHeld => ?_); refine with_tabW spec_l01Finer.tab11 spec_l01Finer.bits11 (fun HT_ HW_ => ?_)
                     generalize wc.drew = w38 at HO_7 HO_8 BK80 HB hx123_0 hx124_0 hx125_0 hx126_0 hHeld ⊢
                     refine pure_ (i := 0) (N := some 37) (v := ?_) (a' := ?_) (zb 22 1) rfl rfl (any_of HT_.out (by kernel_rfl)) (fun _ _ _ h => h) (Or.inl ⟨by rfl, ?_⟩) ?_ ?_
                     rotate_left
                     ·intro w'
                      go_simp
                      with_reducible rfl
                     rotate_left
                     ·simp only [Act.put, Za, Zb, Zc, i64_w, i32_w]
                      rfl
                     refine pure_ (i := 1) (N := some 38) (v := ?_) (a' := ?_) (zb 22 3) rfl rfl (any_of HT_.out (by kernel_rfl)) (fun _ _ _ h => h) (Or.inl ⟨by rfl, ?_⟩) ?_ ?_
                     rotate_left
                     ·intro w'
                      go_simp
                      with_reducible rfl
                     rotate_left
                     ·simp only [Act.put, Za, Zb, Zc, i64_w, i32_w]
                      rfl
                     refine pure_ (i := 2) (N := some 39) (v := ?_) (a' := ?_) (zb 22 7) rfl rfl (any_of HT_.out (by kernel_rfl)) (fun _ _ _ h => h) (Or.inl ⟨by rfl, ?_⟩) ?_ ?_
                     rotate_left
                     ·intro w'
                      go_simp
                      with_reducible rfl
                     rotate_left
                     ·simp only [Act.put, Za, Zb, Zc, i64_w, i32_w]
                      rfl
                     refine pure_ (i := 3) (N := some 40) (v := ?_) (a' := ?_) (zb 22 15) rfl rfl (any_of HT_.out (by kernel_rfl)) (fun _ _ _ h => h) (Or.inl ⟨by rfl, ?_⟩) ?_ ?_
                     rotate_left
                     ·intro w'
                      go_simp
                      with_reducible rfl
                     rotate_left
                     ·simp only [Act.put, Za, Zb, Zc, i64_w, i32_w]
                      rfl
                     refine pure_ (i := 7) (N := some 44) (v := ?_) (a' := ?_) (zb 22 143) rfl rfl (any_of HT_.out (by kernel_rfl)) (fun _ _ _ h => h) (Or.inl ⟨by rfl, ?_⟩) ?_ ?_
                     rotate_left
                     ·intro w'
                      go_simp
                      with_reducible rfl
                     rotate_left
                     ·simp only [Act.put, Za, Zb, Zc, i64_w, i32_w]
                      rfl
                     refine pure_ (i := 8) (N := some 45) (v := ?_) (a' := ?_) (zb 22 399) rfl rfl (any_of HT_.out (by kernel_rfl)) (fun _ _ _ h => h) (Or.inl ⟨by rfl, ?_⟩) ?_ ?_
                     rotate_left
                     ·intro w'
                      go_simp
                      with_reducible rfl
                     rotate_left
                     ·simp only [Act.put, Za, Zb, Zc, i64_w, i32_w]
                      rfl
                     refine pure_ (i := 9) (N := some 46) (v := ?_) (a' := ?_) (zb 22 911) rfl rfl (any_of HT_.out (by kernel_rfl)) (fun _ _ _ h => h) (Or.inl ⟨by rfl, ?_⟩) ?_ ?_
                     rotate_left
                     ·intro w'
                      go_simp
                      with_reducible rfl
                     rotate_left
                     ·simp only [Act.put, Za, Zb, Zc, i64_w, i32_w]
                      rfl
                     refine take_ (i := 4) (N := some 41) (v := ?_) (a' := ?_) (zb 22 927) rfl rfl (take_ofW HT_.out HW_.out (by kernel_rfl)) (fun _ _ _ h => h) (Or.inl ⟨by rfl, ?_⟩) hHeld ?_ ?_
                     rotate_left
                     ·rintro w' ⟨s0, s1, s2, s3⟩
                      go_simp
                      with_reducible rfl
                     rotate_left
                     ·simp only [Act.put, Za, Zb, Zc, i64_w, i32_w]
                      rfl
                     refine pure_ (i := 5) (N := some 42) (v := ?_) (a' := ?_) (zb 22 959) rfl rfl (any_of HT_.out (by kernel_rfl)) (fun _ _ _ h => h) (Or.inl ⟨by rfl, ?_⟩) ?_ ?_
                     rotate_left
                     ·intro w'
                      go_simp
                      with_reducible rfl
                     rotate_left
                     ·simp only [Act.put, Za, Zb, Zc, i64_w, i32_w]
                      rfl
                     refine take_ (i := 6) (N := some 43) (v := ?_) (a' := ?_) (zb 22 1023) rfl rfl (take_ofW HT_.out HW_.out (by kernel_rfl)) (fun _ _ _ h => h) (Or.inl ⟨by rfl, ?_⟩) hHeld ?_ ?_
                     rotate_left
                     ·rintro w' ⟨s0, s1, s2, s3⟩
                      go_simp
                      with_reducible rfl
                     rotate_left
                     ·simp only [Act.put, Za, Zb, Zc, i64_w, i32_w]
                      rfl
                     refine take_ (i := 10) (N := some 47) (v := ?_) (a' := ?_) (zb 22 2047) rfl rfl (take_ofW HT_.out HW_.out (by kernel_rfl)) (fun _ _ _ h => h) (Or.inl ⟨by rfl, ?_⟩) hHeld ?_ ?_
                     rotate_left
                     ·rintro w' ⟨s0, s1, s2, s3⟩
                      go_simp
                      with_reducible rfl
                     rotate_left
                     ·simp only [Act.put, Za, Zb, Zc, i64_w, i32_w]
                      rfl
                     refine pure_ (i := 11) (N := some 48) (v := ?_) (a' := ?_) (zb 22 4095) rfl rfl (any_of HT_.out (by kernel_rfl)) (fun _ _ _ h => h) (Or.inl ⟨by rfl, ?_⟩) ?_ ?_
                     rotate_left
                     ·intro w'
                      go_simp
                      with_reducible rfl
                     rotate_left
                     ·simp only [Act.put, Za, Zb, Zc, i64_w, i32_w]
                      rfl
                     refine pure_ (i := 12) (N := some 49) (v := ?_) (a' := ?_) (zb 22 8191) rfl rfl (any_of HT_.out (by kernel_rfl)) (fun _ _ _ h => h) (Or.inl ⟨by rfl, ?_⟩) ?_ ?_
                     rotate_left
                     ·intro w'
                      go_simp
                      with_reducible rfl
                     rotate_left
                     ·simp only [Act.put, Za, Zb, Zc, i64_w, i32_w]
                      rfl
                     refine pure_ (i := 13) (N := some 50) (v := ?_) (a' := ?_) (zb 22 16383) rfl rfl (any_of HT_.out (by kernel_rfl)) (fun _ _ _ h => h) (Or.inl ⟨by rfl, ?_⟩) ?_ ?_
                     rotate_left
                     ·intro w'
                      go_simp
                      with_reducible rfl
                     rotate_left
                     ·simp only [Act.put, Za, Zb, Zc, i64_w, i32_w]
                      rfl
                     refine pure_ (i := 14) (N := some 51) (v := ?_) (a' := ?_) (zb 22 32767) rfl rfl (any_of HT_.out (by kernel_rfl)) (fun _ _ _ h => h) (Or.inl ⟨by rfl, ?_⟩) ?_ ?_
                     rotate_left
                     ·intro w'
                      go_simp
                      with_reducible rfl
                     rotate_left
                     ·simp only [Act.put, Za, Zb, Zc, i64_w, i32_w]
                      rfl
                     refine pure_ (i := 15) (N := some 52) (v := ?_) (a' := ?_) (zb 22 65535) rfl rfl (any_of HT_.out (by kernel_rfl)) (fun _ _ _ h => h) (Or.inl ⟨by rfl, ?_⟩) ?_ ?_
                     rotate_left
                     ·intro w'
                      go_simp
                      with_reducible rfl
                     rotate_left
                     ·simp only [Act.put, Za, Zb, Zc, i64_w, i32_w]
                      rfl
                     refine pure_ (i := 16) (N := some 53) (v := ?_) (a' := ?_) (zb 22 131071) rfl rfl (any_of HT_.out (by kernel_rfl)) (fun _ _ _ h => h) (Or.inl ⟨by rfl, ?_⟩) ?_ ?_
                     rotate_left
                     ·intro w'
                      go_simp
                      with_reducible rfl
                     rotate_left
                     ·simp only [Act.put, Za, Zb, Zc, i64_w, i32_w]
                      rfl
                     refine pure_ (i := 17) (N := some 54) (v := ?_) (a' := ?_) (zb 22 262143) rfl rfl (any_of HT_.out (by kernel_rfl)) (fun _ _ _ h => h) (Or.inl ⟨by rfl, ?_⟩) ?_ ?_
                     rotate_left
                     ·intro w'
                      go_simp
                      with_reducible rfl
                     rotate_left
                     ·simp only [Act.put, Za, Zb, Zc, i64_w, i32_w]
                      rfl
                     refine pure_ (i := 19) (N := some 56) (v := ?_) (a' := ?_) (zb 22 786431) rfl rfl (any_of HT_.out (by kernel_rfl)) (fun _ _ _ h => h) (Or.inl ⟨by rfl, ?_⟩) ?_ ?_
                     rotate_left
                     ·intro w'
                      go_simp
                      with_reducible rfl
                     rotate_left
                     ·simp only [Act.put, Za, Zb, Zc, i64_w, i32_w]
                      rfl
                     refine take_ (i := 18) (N := some 55) (v := ?_) (a' := ?_) (zb 22 1048575) rfl rfl (take_ofW HT_.out HW_.out (by kernel_rfl)) (fun _ _ _ h => h) (Or.inl ⟨by rfl, ?_⟩) hHeld ?_ ?_
                     rotate_left
                     ·rintro w' ⟨s0, s1, s2, s3⟩
                      go_simp
                      with_reducible rfl
                     rotate_left
                     ·simp only [Act.put, Za, Zb, Zc, i64_w, i32_w]
                      rfl
                     refine one_ (i := 20) (N := some 57) (zb 22 2097151) rfl rfl (one_of HT_.out (by kernel_rfl)) (by decide) (fun K hK => ?_)
                     refine goes_ Tryd.func158 (by kernel_rfl) rfl #[.pointer (some ⟨gp0, 0, none⟩), .slice (some ad124) l1.length c1, .int .i64 (rd x8_1 x10_2), .int .i64 x9_1] (by rfl) rfl rfl (by (try simp only [List.map_toArray, List.map_cons, List.map_nil]); first | done | rfl | (simp only [List.length_drop, List.length_take]; rfl)) ?_
                     with_reducible refine (spec_l01Alike.calls kj14 gp0 x81000_2 x81001_2 A0_2 c0_2 l0_2 A0_3 c0_3 l0_3 _ _ l1 (rd x8_1 x10_2) x9_1 false _ ?side1 ?side2 ?side3 ?side4 ?side5 ?side6 ?side7 A29.out).mono ?_
                     (case side1 => (with_reducible repeat (first | refine blk_drewN ?_ _ | refine blk_drew ?_ | refine blk_alloc ?_ _)); exact BK80.out)
                     (case side2 => repeat (first | exact (Kd.C_below HR0_2.out HB.out) | (with_reducible refine Kd.C_alloc ?_ _) | (with_reducible refine Kd.C_drewN ?_ _) | (with_reducible refine Kd.C_drew ?_)))
                     (case side3 => exact HC0_2.out)
                     (case side4 => repeat (first | exact (Kd.C_below HR0_3.out HB.out) | (with_reducible refine Kd.C_alloc ?_ _) | (with_reducible refine Kd.C_drewN ?_ _) | (with_reducible refine Kd.C_drew ?_)))
                     (case side5 => exact HC0_3.out)
                     (case side6 => repeat (first | exact (Kd.C_below HR1.out HB.out) | (with_reducible refine Kd.C_alloc ?_ _) | (with_reducible refine Kd.C_drewN ?_ _) | (with_reducible refine Kd.C_drew ?_)))
                     (case side7 => exact HC1.out)
                     rintro e w40 ⟨rfl, hb⟩
                     have HS0_ := (hb.cell (World.block_lt_of_cell? _ _ (hHeld.1))).trans (hHeld.1)
                     have HS3_ := (hb.cell (World.block_lt_of_cell? _ _ (hHeld.2.2.2))).trans (hHeld.2.2.2)
                     refine ⟨_, rfl, ?_⟩
                     have n0_ := Aside0.mk (Kd.R_below (by (with_reducible repeat (first | apply Kd.R_alloc | apply Kd.R_drewN | apply Kd.R_drew)); exact HO_7.out) hb)
                     have n1_ := Aside0.mk (Kd.R_below (by (with_reducible repeat (first | apply Kd.R_alloc | apply Kd.R_drewN | apply Kd.R_drew)); exact HO_8.out) hb)
                     have n2_ := Aside0.mk (blk_below (g := gp0) (o := .cells #[.int .i64 x81000_2, .int .i64 x81001_2, .slice A0_2 l0_2.length c0_2, .slice A0_3 l0_3.length c0_3] 29 (0, 0)) (by (with_reducible repeat (first | refine blk_drewN ?_ _ | refine blk_drew ?_ | refine blk_alloc ?_ _)); exact BK80.out) hb)
                     have n3_ := Aside0.mk (below_step (by repeat (first | (with_reducible first | exact HB.out | apply below_alloc | apply pw_below_drewN | apply below_drew1 | refine below_set ?_ GE80.out) | exact HB.out)) hb)
                     clear HO_7
                     clear HO_8
                     clear BK80
                     clear HB
                     have HO_7 := n0_
                     have HO_8 := n1_
                     have BK80 := n2_
                     have HB := n3_
                     clear n0_ n1_ n2_ n3_
                     (try clear hb)
                     (try clear hb2)
                     (try clear hk)
                     (try clear hi)
                     refine hK.out _ _ ⟨HS0_, ((HB.out.cell (World.block_lt_of_cell? w _ hw124_0)).trans hw124_0), ((HB.out.cell (World.block_lt_of_cell? w _ hw125_0)).trans hw125_0), HS3_⟩ (fun hHeld => ?_)
                     clear hK K
                     refine norm_ (a' := ?_) ?_ ?_
                     rotate_left
                     ·show Act.put _ (some 57) _ = _
                      simp only [Act.put, Za, Zb, Zc, i64_w, i32_w]
                      rfl
                     refine pure_ (i := 21) (N := some 58) (v := ?_) (a' := ?_) (zb 22 4194303) rfl rfl (any_of HT_.out (by kernel_rfl)) (fun _ _ _ h => h) (Or.inl ⟨by rfl, ?_⟩) ?_ ?_
                     rotate_left
                     ·intro w'
                      go_simp
                      with_reducible rfl
                     rotate_left
                     ·simp only [Act.put, Za, Zb, Zc, i64_w, i32_w]
                      rfl
                     refine done_ (done_of HT_.out (by kernel_rfl)) ?_
                     try go_wp2
                     (try simp only [← hl7_2])
                     go_roundg kj14
                     case measure => have := HK1.out; have := HK2.out; have := HJ14.out; omega
                     case rel => exact ⟨(x7_2), (wrap64 (x10_2 + 1)), (x81000_2), (x81001_2), (by first | rfl | (simp; done) | (simp [*]; done) | (simp [wrap64]; done)), H', ⟨by have := HK1.out; have := HK2.out; have := HJ14.out; omega⟩, ⟨by (try simp only [hl7_2]); (with_reducible repeat (first | apply Kd.R_alloc | apply Kd.R_drewN | apply Kd.R_drew)); exact HO_7.out⟩, ⟨by (try simp only [hl7_2]); (with_reducible repeat (first | apply Kd.R_alloc | apply Kd.R_drewN | apply Kd.R_drew)); exact HO_8.out⟩, ⟨by (try simp only [hl7_2]); (with_reducible repeat (first | refine blk_drewN ?_ _ | refine blk_drew ?_ | refine blk_alloc ?_ _)); exact BK80.out⟩, ⟨by repeat (first | (with_reducible first | exact HB.out | apply below_alloc | apply pw_below_drewN | apply below_drew1 | refine below_set ?_ GE80.out) | exact HB.out)⟩⟩
                   ·rw [if_neg c28] at H
                    have c28b0 : ((rd l1 (rd x8_1 x10_2)) == (rd l1 x9_1)) = false := beq_eq_false_iff_ne.mpr c28
                    have c28b1 : ((rd l1 (rd x8_1 x10_2)) != (rd l1 x9_1)) = true := bne_iff_ne.mpr c28
                    have H' := Aside0.mk H
                    clear H
                    try go_wp2
                    have n0_ := Aside0.mk (Kd.R_drew HO_7.out)
                    have n1_ := Aside0.mk (Kd.R_drew HO_8.out)
                    have n2_ := Aside0.mk (blk_drew BK80.out)
                    have n3_ := Aside0.mk (below_drew1 HB.out)
                    clear HO_7
                    clear HO_8
                    clear BK80
                    clear HB
                    have HO_7 := n0_
                    have HO_8 := n1_
                    have BK80 := n2_
                    have HB := n3_
                    clear n0_ n1_ n2_ n3_
                    obtain ⟨Ao42, co42, eo42⟩ := Kd.R_slice HO_8.out
                    (first | subst eo42 | (injection eo42 with f1_ f2_ f3_; have f4_ := f1_.symm; have f5_ := f3_.symm; clear f1_ f2_ f3_; subst f4_; subst f5_))
                    have p123 : 0 ≤ (x10_2 : Int) := of_decide_eq_true (by first | (with_reducible assumption) | assumption)
                    have q123 : x10_2 < (x8_1.length : Int) := of_decide_eq_true (by first | (with_reducible assumption) | assumption)
                    obtain ⟨ad123, e123, hx123_0⟩ := Kd.at_int (Kd.R_reads' HO_8.out).2.2 x10_2 p123 q123
                    cases e123
                    replace p123 := eq_true p123
                    replace q123 := eq_true q123
                    have p124 : 0 ≤ ((rd x8_1 x10_2) : Int) := of_decide_eq_true (by first | (with_reducible assumption) | assumption)
                    have q124 : (rd x8_1 x10_2) < (l1.length : Int) := of_decide_eq_true (by first | (with_reducible assumption) | assumption)
                    obtain ⟨ad124, e124, hx124_0⟩ := Kd.at_int HR1.out (rd x8_1 x10_2) p124 q124
                    have hw124_0 := hx124_0
                    cases e124
                    replace hx124_0 := (HB.out.cell (World.block_lt_of_cell? w _ hx124_0)).trans hx124_0
                    replace p124 := eq_true p124
                    replace q124 := eq_true q124
                    have p125 : 0 ≤ (x9_1 : Int) := of_decide_eq_true (by first | (with_reducible assumption) | assumption)
                    have q125 : x9_1 < (l1.length : Int) := of_decide_eq_true (by first | (with_reducible assumption) | assumption)
                    obtain ⟨ad125, e125, hx125_0⟩ := Kd.at_int HR1.out x9_1 p125 q125
                    have hw125_0 := hx125_0
                    obtain rfl : ad124 = ad125 := (by injection e125)
                    replace hx125_0 := (HB.out.cell (World.block_lt_of_cell? w _ hx125_0)).trans hx125_0
                    replace p125 := eq_true p125
                    replace q125 := eq_true q125
                    refine start_ (n := 22) (S := fun w' => w'.cell? (ad123.add (x10_2).toNat) = some (.int .i64 (rd x8_1 x10_2)) ∧ w'.cell? (ad124.add ((rd x8_1 x10_2)).toNat) = some (.int .i64 (rd l1 (rd x8_1 x10_2))) ∧ w'.cell? (ad124.add (x9_1).toNat) = some (.int .i64 (rd l1 x9_1))) (ds := []) (.replicate 22 false) (by kernel_rfl) rfl rfl ⟨hx123_0, ((HB.out.cell (World.block_lt_of_cell? w _ hw124_0)).trans hw124_0), ((HB.out.cell (World.block_lt_of_cell? w _ hw125_0)).trans hw125_0)⟩ (fun hHeld => ?_); refine with_tabW spec_l01Finer.tab11 spec_l01Finer.bits11 (fun HT_ HW_ => ?_)
                    generalize wc.drew = w41 at HO_7 HO_8 BK80 HB hx123_0 hx124_0 hx125_0 hHeld ⊢
                    refine pure_ (i := 0) (N := some 37) (v := ?_) (a' := ?_) (zb 22 1) rfl rfl (any_of HT_.out (by kernel_rfl)) (fun _ _ _ h => h) (Or.inl ⟨by rfl, ?_⟩) ?_ ?_
                    rotate_left
                    ·intro w'
                     go_simp
                     with_reducible rfl
                    rotate_left
                    ·simp only [Act.put, Za, Zb, Zc, i64_w, i32_w]
                     rfl
                    refine pure_ (i := 1) (N := some 38) (v := ?_) (a' := ?_) (zb 22 3) rfl rfl (any_of HT_.out (by kernel_rfl)) (fun _ _ _ h => h) (Or.inl ⟨by rfl, ?_⟩) ?_ ?_
                    rotate_left
                    ·intro w'
                     go_simp
                     with_reducible rfl
                    rotate_left
                    ·simp only [Act.put, Za, Zb, Zc, i64_w, i32_w]
                     rfl
                    refine pure_ (i := 2) (N := some 39) (v := ?_) (a' := ?_) (zb 22 7) rfl rfl (any_of HT_.out (by kernel_rfl)) (fun _ _ _ h => h) (Or.inl ⟨by rfl, ?_⟩) ?_ ?_
                    rotate_left
                    ·intro w'
                     go_simp
                     with_reducible rfl
                    rotate_left
                    ·simp only [Act.put, Za, Zb, Zc, i64_w, i32_w]
                     rfl
                    refine pure_ (i := 3) (N := some 40) (v := ?_) (a' := ?_) (zb 22 15) rfl rfl (any_of HT_.out (by kernel_rfl)) (fun _ _ _ h => h) (Or.inl ⟨by rfl, ?_⟩) ?_ ?_
                    rotate_left
                    ·intro w'
                     go_simp
                     with_reducible rfl
                    rotate_left
                    ·simp only [Act.put, Za, Zb, Zc, i64_w, i32_w]
                     rfl
                    refine pure_ (i := 7) (N := some 44) (v := ?_) (a' := ?_) (zb 22 143) rfl rfl (any_of HT_.out (by kernel_rfl)) (fun _ _ _ h => h) (Or.inl ⟨by rfl, ?_⟩) ?_ ?_
                    rotate_left
                    ·intro w'
                     go_simp
                     with_reducible rfl
                    rotate_left
                    ·simp only [Act.put, Za, Zb, Zc, i64_w, i32_w]
                     rfl
                    refine pure_ (i := 8) (N := some 45) (v := ?_) (a' := ?_) (zb 22 399) rfl rfl (any_of HT_.out (by kernel_rfl)) (fun _ _ _ h => h) (Or.inl ⟨by rfl, ?_⟩) ?_ ?_
                    rotate_left
                    ·intro w'
                     go_simp
                     with_reducible rfl
                    rotate_left
                    ·simp only [Act.put, Za, Zb, Zc, i64_w, i32_w]
                     rfl
                    refine pure_ (i := 9) (N := some 46) (v := ?_) (a' := ?_) (zb 22 911) rfl rfl (any_of HT_.out (by kernel_rfl)) (fun _ _ _ h => h) (Or.inl ⟨by rfl, ?_⟩) ?_ ?_
                    rotate_left
                    ·intro w'
                     go_simp
                     with_reducible rfl
                    rotate_left
                    ·simp only [Act.put, Za, Zb, Zc, i64_w, i32_w]
                     rfl
                    refine take_ (i := 4) (N := some 41) (v := ?_) (a' := ?_) (zb 22 927) rfl rfl (take_ofW HT_.out HW_.out (by kernel_rfl)) (fun _ _ _ h => h) (Or.inl ⟨by rfl, ?_⟩) hHeld ?_ ?_
                    rotate_left
                    ·rintro w' ⟨s0, s1, s2⟩
                     go_simp
                     with_reducible rfl
                    rotate_left
                    ·simp only [Act.put, Za, Zb, Zc, i64_w, i32_w]
                     rfl
                    refine pure_ (i := 5) (N := some 42) (v := ?_) (a' := ?_) (zb 22 959) rfl rfl (any_of HT_.out (by kernel_rfl)) (fun _ _ _ h => h) (Or.inl ⟨by rfl, ?_⟩) ?_ ?_
                    rotate_left
                    ·intro w'
                     go_simp
                     with_reducible rfl
                    rotate_left
                    ·simp only [Act.put, Za, Zb, Zc, i64_w, i32_w]
                     rfl
                    refine take_ (i := 6) (N := some 43) (v := ?_) (a' := ?_) (zb 22 1023) rfl rfl (take_ofW HT_.out HW_.out (by kernel_rfl)) (fun _ _ _ h => h) (Or.inl ⟨by rfl, ?_⟩) hHeld ?_ ?_
                    rotate_left
                    ·rintro w' ⟨s0, s1, s2⟩
                     go_simp
                     with_reducible rfl
                    rotate_left
                    ·simp only [Act.put, Za, Zb, Zc, i64_w, i32_w]
                     rfl
                    refine take_ (i := 10) (N := some 47) (v := ?_) (a' := ?_) (zb 22 2047) rfl rfl (take_ofW HT_.out HW_.out (by kernel_rfl)) (fun _ _ _ h => h) (Or.inl ⟨by rfl, ?_⟩) hHeld ?_ ?_
                    rotate_left
                    ·rintro w' ⟨s0, s1, s2⟩
                     go_simp
                     with_reducible rfl
                    rotate_left
                    ·simp only [Act.put, Za, Zb, Zc, i64_w, i32_w]
                     rfl
                    refine pure_ (i := 11) (N := some 48) (v := ?_) (a' := ?_) (zb 22 4095) rfl rfl (any_of HT_.out (by kernel_rfl)) (fun _ _ _ h => h) (Or.inl ⟨by rfl, ?_⟩) ?_ ?_
                    rotate_left
                    ·intro w'
                     go_simp
                     with_reducible rfl
                    rotate_left
                    ·simp only [Act.put, Za, Zb, Zc, i64_w, i32_w]
                     rfl
                    refine pure_ (i := 12) (N := some 49) (v := ?_) (a' := ?_) (zb 22 8191) rfl rfl (any_of HT_.out (by kernel_rfl)) (fun _ _ _ h => h) (Or.inl ⟨by rfl, ?_⟩) ?_ ?_
                    rotate_left
                    ·intro w'
                     go_simp
                     with_reducible rfl
                    rotate_left
                    ·simp only [Act.put, Za, Zb, Zc, i64_w, i32_w]
                     rfl
                    refine pure_ (i := 13) (N := some 50) (v := undef) (a' := ?_) (zb 22 16383) rfl rfl (any_of HT_.out (by kernel_rfl)) (fun _ _ _ h => h) (Or.inr ⟨by rfl, rfl⟩) ?_ ?_
                    rotate_left
                    ·simp only [Act.put, Za, Zb, Zc, i64_w, i32_w]
                     rfl
                    refine pure_ (i := 14) (N := some 51) (v := undef) (a' := ?_) (zb 22 32767) rfl rfl (any_of HT_.out (by kernel_rfl)) (fun _ _ _ h => h) (Or.inr ⟨by rfl, rfl⟩) ?_ ?_
                    rotate_left
                    ·simp only [Act.put, Za, Zb, Zc, i64_w, i32_w]
                     rfl
                    refine pure_ (i := 15) (N := some 52) (v := undef) (a' := ?_) (zb 22 65535) rfl rfl (any_of HT_.out (by kernel_rfl)) (fun _ _ _ h => h) (Or.inr ⟨by rfl, rfl⟩) ?_ ?_
                    rotate_left
                    ·simp only [Act.put, Za, Zb, Zc, i64_w, i32_w]
                     rfl
                    refine pure_ (i := 16) (N := some 53) (v := undef) (a' := ?_) (zb 22 131071) rfl rfl (any_of HT_.out (by kernel_rfl)) (fun _ _ _ h => h) (Or.inr ⟨by rfl, rfl⟩) ?_ ?_
                    rotate_left
                    ·simp only [Act.put, Za, Zb, Zc, i64_w, i32_w]
                     rfl
                    refine pure_ (i := 17) (N := some 54) (v := undef) (a' := ?_) (zb 22 262143) rfl rfl (any_of HT_.out (by kernel_rfl)) (fun _ _ _ h => h) (Or.inr ⟨by rfl, rfl⟩) ?_ ?_
                    rotate_left
                    ·simp only [Act.put, Za, Zb, Zc, i64_w, i32_w]
                     rfl
                    refine pure_ (i := 18) (N := some 55) (v := undef) (a' := ?_) (zb 22 524287) rfl rfl (any_of HT_.out (by kernel_rfl)) (fun _ _ _ h => h) (Or.inr ⟨by rfl, rfl⟩) ?_ ?_
                    rotate_left
                    ·simp only [Act.put, Za, Zb, Zc, i64_w, i32_w]
                     rfl
                    refine pure_ (i := 19) (N := some 56) (v := undef) (a' := ?_) (zb 22 1048575) rfl rfl (any_of HT_.out (by kernel_rfl)) (fun _ _ _ h => h) (Or.inr ⟨by rfl, rfl⟩) ?_ ?_
                    rotate_left
                    ·simp only [Act.put, Za, Zb, Zc, i64_w, i32_w]
                     rfl
                    refine pure_ (i := 20) (N := some 57) (v := undef) (a' := ?_) (zb 22 2097151) rfl rfl (any_of HT_.out (by kernel_rfl)) (fun _ _ _ h => h) (Or.inr ⟨by rfl, rfl⟩) ?_ ?_
                    rotate_left
                    ·simp only [Act.put, Za, Zb, Zc, i64_w, i32_w]
                     rfl
                    refine pure_ (i := 21) (N := some 58) (v := ?_) (a' := ?_) (zb 22 4194303) rfl rfl (any_of HT_.out (by kernel_rfl)) (fun _ _ _ h => h) (Or.inl ⟨by rfl, ?_⟩) ?_ ?_
                    rotate_left
                    ·intro w'
                     go_simp
                     with_reducible rfl
                    rotate_left
                    ·simp only [Act.put, Za, Zb, Zc, i64_w, i32_w]
                     rfl
                    refine done_ (done_of HT_.out (by kernel_rfl)) ?_
                    try go_wp2
                    (try simp only [← hl7_2])
                    go_roundg kj14
                    case measure => have := HK1.out; have := HK2.out; have := HJ14.out; omega
                    case rel => exact ⟨(x7_2), (wrap64 (x10_2 + 1)), (x81000_2), (x81001_2), (by first | rfl | (simp; done) | (simp [*]; done) | (simp [wrap64]; done)), H', ⟨by have := HK1.out; have := HK2.out; have := HJ14.out; omega⟩, ⟨by (try simp only [hl7_2]); (with_reducible repeat (first | apply Kd.R_alloc | apply Kd.R_drewN | apply Kd.R_drew)); exact HO_7.out⟩, ⟨by (try simp only [hl7_2]); (with_reducible repeat (first | apply Kd.R_alloc | apply Kd.R_drewN | apply Kd.R_drew)); exact HO_8.out⟩, ⟨by (try simp only [hl7_2]); (with_reducible repeat (first | refine blk_drewN ?_ _ | refine blk_drew ?_ | refine blk_alloc ?_ _)); exact BK80.out⟩, ⟨by repeat (first | (with_reducible first | exact HB.out | apply below_alloc | apply pw_below_drewN | apply below_drew1 | refine below_set ?_ GE80.out) | exact HB.out)⟩⟩
                  ·rw [if_neg c27] at H
                   exact absurd H (by simp)
                 ·rw [if_neg c26] at H
                  exact absurd H (by simp)
                ·rw [if_neg c25] at H
                 exact absurd H (by simp)
               ·rw [if_neg c24] at H
                exact absurd H (by simp)
              ·rw [if_neg c23] at H
               exact absurd H (by simp)
             ·rw [if_neg c22] at H
              exact absurd H (by simp)
            ·replace c21 := Bool.eq_false_iff.mpr c21
             subst c21
             have H1 : (if 0 ≤ x9_1 then (if x9_1 < (x7_2.length : Int) then (if (rd x7_2 x9_1) < 0 then (if x8_1.length < 17592186044416 then (spec_l01Finer.l0 kj14 l1 (l1.length : Int) (x7_2.set (x9_1 : Int).toNat (x8_1.length : Int)) (x8_1 ++ [x9_1]) (wrap64 (x9_1 + 1)) x81000_2 x81001_2 l0_2 l0_3) else (none)) else (spec_l01Finer.l0 kj14 l1 (l1.length : Int) x7_2 x8_1 (wrap64 (x9_1 + 1)) x81000_2 x81001_2 l0_2 l0_3)) else (none)) else (none)) = some (r1, r2) := by rw [if_neg (show ¬ (false = true) by decide)] at H; exact H
             clear H
             have H := H1
             clear H1
             by_cases c43 : 0 ≤ x9_1
             ·rw [if_pos c43] at H
              have c43b0 : decide (0 ≤ x9_1) = true := decide_eq_true c43
              clear c43
              by_cases c44 : x9_1 < (x7_2.length : Int)
              ·rw [if_pos c44] at H
               have c44b0 : decide (x9_1 < (x7_2.length : Int)) = true := decide_eq_true c44
               clear c44
               by_cases c45 : (rd x7_2 x9_1) < 0
               ·rw [if_pos c45] at H
                have c45b0 : decide ((rd x7_2 x9_1) < 0) = true := decide_eq_true c45
                clear c45
                obtain ⟨y130, hy130⟩ : ∃ y_ : List Int, y_ = (x7_2.set (x9_1 : Int).toNat (x8_1.length : Int)) := ⟨_, rfl⟩
                replace H : (if x8_1.length < 17592186044416 then (spec_l01Finer.l0 kj14 l1 (l1.length : Int) y130 (x8_1 ++ [x9_1]) (wrap64 (x9_1 + 1)) x81000_2 x81001_2 l0_2 l0_3) else (none)) = some (r1, r2) := by first | (rw [hy130]; with_reducible exact H) | (have H2_ := (Option.bind_some _ _).symm.trans H; rw [hy130]; with_reducible exact H2_) | (have H2_ := (Option.bind_some _ _).symm.trans H; with_reducible exact H2_) | with_reducible exact H | (rw [hy130]; exact H) | exact H
                have Ny130 := Aside0.mk hy130
                clear hy130
                by_cases c47 : x8_1.length < 17592186044416
                ·rw [if_pos c47] at H
                 have LMc47 := Aside0.mk c47
                 clear c47
                 obtain ⟨y131, hy131⟩ : ∃ y_ : List Int, y_ = (x8_1 ++ [x9_1]) := ⟨_, rfl⟩
                 replace H : (spec_l01Finer.l0 kj14 l1 (l1.length : Int) y130 y131 (wrap64 (x9_1 + 1)) x81000_2 x81001_2 l0_2 l0_3) = some (r1, r2) := by first | (rw [hy131]; with_reducible exact H) | (have H2_ := (Option.bind_some _ _).symm.trans H; rw [hy131]; with_reducible exact H2_) | (have H2_ := (Option.bind_some _ _).symm.trans H; with_reducible exact H2_) | with_reducible exact H | (rw [hy131]; exact H) | exact H
                 have Ny131 := Aside0.mk hy131
                 clear hy131
                 have H' := Aside0.mk H
                 clear H
                 have p129 : 0 ≤ (x9_1 : Int) := of_decide_eq_true (by first | (with_reducible assumption) | assumption)
                 have q129 : x9_1 < (x7_2.length : Int) := of_decide_eq_true (by first | (with_reducible assumption) | assumption)
                 obtain ⟨ad129, e129, hx129_0⟩ := Kd.at_int (Kd.R_reads' HO_7.out).2.2 x9_1 p129 q129
                 obtain rfl : (⟨go12, 0, none⟩ : Addr) = ad129 := (by injection e129)
                 (first | simp only [add_plain] at hx129_0 | simp only [add_at] at hx129_0 | simp only [Addr.add, Nat.zero_add] at hx129_0 | skip)
                 replace p129 := eq_true p129
                 replace q129 := eq_true q129
                 obtain ⟨Ao48, co48, eo48⟩ := Kd.R_slice HO_8.out
                 subst eo48
                 have p46 : 0 ≤ (x9_1 : Int) := of_decide_eq_true (by first | (with_reducible assumption) | assumption)
                 have q46 : (x9_1 : Int) < ((x7_2.length : Int) : Int) := of_decide_eq_true (by first | (with_reducible assumption) | assumption)
                 obtain ⟨hx46_0, hf46_0⟩ := Kd.R_celln 0 HO_7.out (x9_1 : Int) p46 q46
                 replace p46 := eq_true p46
                 replace q46 := eq_true q46
                 have HP49 := Kd.R_putg HO_7.out (x9_1 : Int) (x8_1.length : Int)
                 go_wp2_with (first | ((with_reducible refine gate_store (t := 2) (p := 72) rfl ?_); refine store_event (t := 2) (p := 72) (v := ?vo_w50) (w1 := (wc.setCell ⟨go12, (x9_1 : Int).toNat, none⟩ (.int .i64 (x8_1.length : Int)))) ?hg ?ho ?hn ?hr ?_; (case ho => rfl); (case hg => rfl); (case hn => rfl); (case hr => first | (go_simp; done) | (go_simp; rfl)); intro w50 hw; have hg : wc.grownBy w50 (some go12) := (by rw [hw]; exact HP49.2); have hp_ : Kd.R (Kd.int .i64) 2 w50 w.heap.size (fun k_ => some k_ ≠ (.slice Ao48 x8_1.length co48 : Value).ownBlock) (.slice (some ⟨go12, 0, none⟩) x7_2.length co12) y130 := (by rw [hw, Ny130.out]; exact HP49.1); clear HP49; have n0_ := Aside0.mk (hp_); have n1_ := Aside0.mk (Kd.R_after (v := (.slice (some ⟨go12, 0, none⟩) x7_2.length co12)) (v1 := (.slice (some ⟨go12, 0, none⟩) x7_2.length co12)) (ok := (fun _ => True)) (by (with_reducible repeat (first | apply Kd.R_alloc | apply Kd.R_drewN | apply Kd.R_drew)); exact Kd.R_mono HO_8.out (fun _ hk => ⟨trivial, hk⟩)) hg (.inl rfl)); have n2_ := Aside0.mk (blk_grown (g := gp0) (o := .cells #[.int .i64 x81000_2, .int .i64 x81001_2, .slice A0_2 l0_2.length c0_2, .slice A0_3 l0_3.length c0_3] 29 (0, 0)) (by (with_reducible repeat (first | refine blk_drewN ?_ _ | refine blk_drew ?_ | refine blk_alloc ?_ _)); exact BK80.out) hg (Kd.R_ne HO_7.out BK80.out (by decide))); have n3_ := Aside0.mk ((by rw [hw]; exact below_set (HB.out) GB12.out : Below w.heap.size w w50)); clear HO_7; clear HO_8; clear BK80; clear HB; have HO_7 := n0_; have HO_8 := n1_; have BK80 := n2_; have HB := n3_; clear n0_ n1_ n2_ n3_; clear hg hw hp_) | ((with_reducible refine gate_builtin (b := .append) (xs := #[.tmp 73, .tmp 75]) rfl ?_); at_builtin; refine Kd.R_append (Kd.int .i64) (w0 := w) w.heap.size rfl (.tmp 73) (.tmp 75) 86 2 (.int .i64 0) 8 rfl Tryd.underlying86 info2 rfl (by decide) (by omega) (.slice Ao48 x8_1.length co48) x8_1 x9_1 [.int .i64 x9_1] (fun k_ => some k_ ≠ (.slice (some ⟨go12, 0, none⟩) x7_2.length co12 : Value).ownBlock) (fun _ => False) rfl rfl ?aP (fun _ hk => hk.elim) ?aF ?aO ?aB ?aS ?aL ?_; (case aP => exact rfl); (case aB => exact (by repeat (first | (with_reducible first | exact HB.out | apply below_alloc | apply pw_below_drewN | apply below_drew1 | refine below_set ?_ GE80.out) | exact HB.out))); (case aF => exact (fun k_ hk => Kd.fresh' (Kd.R_lt (by (with_reducible repeat (first | apply Kd.R_alloc | apply Kd.R_drewN | apply Kd.R_drew)); exact HO_7.out)) k_ hk)); (case aO => exact (by (with_reducible repeat (first | apply Kd.R_alloc | apply Kd.R_drewN | apply Kd.R_drew)); exact Kd.R_mono HO_8.out (fun _ hk => hk.2))); (case aS => exact (below_size (by repeat (first | (with_reducible first | exact HB.out | apply below_alloc | apply pw_below_drewN | apply below_drew1 | refine below_set ?_ GE80.out) | exact HB.out)))); (case aL => have := LMc47.out; omega); intro v132 w51 ho hb hg hat; rw [← Ny131.out] at ho; have n0_ := Aside0.mk (Kd.R_after (ok := (fun _ => True)) (by (with_reducible repeat (first | apply Kd.R_alloc | apply Kd.R_drewN | apply Kd.R_drew)); exact Kd.R_mono HO_7.out (fun _ hk => ⟨trivial, hk⟩)) hg hat); have n1_ := Aside0.mk (blk_grown (g := gp0) (o := .cells #[.int .i64 x81000_2, .int .i64 x81001_2, .slice A0_2 l0_2.length c0_2, .slice A0_3 l0_3.length c0_3] 29 (0, 0)) (by (with_reducible repeat (first | refine blk_drewN ?_ _ | refine blk_drew ?_ | refine blk_alloc ?_ _)); exact BK80.out) hg (Kd.R_ne HO_8.out BK80.out (by decide))); have n2_ := Aside0.mk (hb); have n3_ := Aside0.mk (ho); clear HO_7; clear BK80; clear HB; clear HO_8; have HO_7 := n0_; have BK80 := n1_; have HB := n2_; have HO133 := n3_; clear n0_ n1_ n2_ n3_; clear ho hb hg hat))
                 (try simp only [← hl7_2])
                 go_roundg kj14
                 case measure => have := HK1.out; have := HK2.out; have := HJ14.out; omega
                 case rel => exact ⟨(y130), (y131), (wrap64 (x9_1 + 1)), (x81000_2), (x81001_2), (by first | rfl | (simp; done) | (simp [*]; done) | (simp [wrap64]; done)), H', ⟨by have := HK1.out; have := HK2.out; have := HJ14.out; omega⟩, ⟨by (try simp only [hl7_2]); (with_reducible repeat (first | apply Kd.R_alloc | apply Kd.R_drewN | apply Kd.R_drew)); exact Kd.R_mono HO_7.out (fun _ hk => hk.2)⟩, ⟨by (try simp only [hl7_2]); (with_reducible repeat (first | apply Kd.R_alloc | apply Kd.R_drewN | apply Kd.R_drew)); exact HO133.out⟩, ⟨by (try simp only [hl7_2]); (with_reducible repeat (first | refine blk_drewN ?_ _ | refine blk_drew ?_ | refine blk_alloc ?_ _)); exact BK80.out⟩, ⟨by repeat (first | (with_reducible first | exact HB.out | apply below_alloc | apply pw_below_drewN | apply below_drew1 | refine below_set ?_ GE80.out) | exact HB.out)⟩⟩
                ·rw [if_neg c47] at H
                 exact absurd H (by simp)
               ·rw [if_neg c45] at H
                have c45b0 : decide ((rd x7_2 x9_1) < 0) = false := decide_eq_false c45
                clear c45
                have H' := Aside0.mk H
                clear H
                have p129 : 0 ≤ (x9_1 : Int) := of_decide_eq_true (by first | (with_reducible assumption) | assumption)
                have q129 : x9_1 < (x7_2.length : Int) := of_decide_eq_true (by first | (with_reducible assumption) | assumption)
                obtain ⟨ad129, e129, hx129_0⟩ := Kd.at_int (Kd.R_reads' HO_7.out).2.2 x9_1 p129 q129
                obtain rfl : (⟨go12, 0, none⟩ : Addr) = ad129 := (by injection e129)
                (first | simp only [add_plain] at hx129_0 | simp only [add_at] at hx129_0 | simp only [Addr.add, Nat.zero_add] at hx129_0 | skip)
                replace p129 := eq_true p129
                replace q129 := eq_true q129
                go_wp2
                (try simp only [← hl7_2])
                go_roundg kj14
                case measure => have := HK1.out; have := HK2.out; have := HJ14.out; omega
                case rel => exact ⟨(x7_2), (x8_1), (wrap64 (x9_1 + 1)), (x81000_2), (x81001_2), (by first | rfl | (simp; done) | (simp [*]; done) | (simp [wrap64]; done)), H', ⟨by have := HK1.out; have := HK2.out; have := HJ14.out; omega⟩, ⟨by (try simp only [hl7_2]); (with_reducible repeat (first | apply Kd.R_alloc | apply Kd.R_drewN | apply Kd.R_drew)); exact HO_7.out⟩, ⟨by (try simp only [hl7_2]); (with_reducible repeat (first | apply Kd.R_alloc | apply Kd.R_drewN | apply Kd.R_drew)); exact HO_8.out⟩, ⟨by (try simp only [hl7_2]); (with_reducible repeat (first | refine blk_drewN ?_ _ | refine blk_drew ?_ | refine blk_alloc ?_ _)); exact BK80.out⟩, ⟨by repeat (first | (with_reducible first | exact HB.out | apply below_alloc | apply pw_below_drewN | apply below_drew1 | refine below_set ?_ GE80.out) | exact HB.out)⟩⟩
              ·rw [if_neg c44] at H
               exact absurd H (by simp)
             ·rw [if_neg c43] at H
              exact absurd H (by simp)
       ·rw [if_neg c11] at H
        exact absurd H (by simp)
      ·rw [if_neg c10] at H
       exact absurd H (by simp)
     ·rw [if_neg c9] at H
      have c9b0 : decide (x9_1 < (l1.length : Int)) = false := decide_eq_false c9
      clear c9
      simp only [Option.some.injEq, Prod.mk.injEq] at H
      obtain ⟨rfl, rfl⟩ := H
      obtain ⟨Ao52, co52, eo52⟩ := Kd.R_slice HO_8.out
      subst eo52
      go_wp2
      go_ret2
      exact ⟨_, by first | rfl | (simp [errW_none, errW_some] <;> rfl) | (simp [*, errW_none, errW_some] <;> rfl), by (with_reducible repeat (first | apply Kd.R_alloc | apply Kd.R_drewN | apply Kd.R_drew)); exact Kd.R_mono HO_7.out (fun _ hk => trivial), by repeat (first | (with_reducible first | exact HB.out | apply below_alloc | apply pw_below_drewN | apply below_drew1 | refine below_set ?_ GE80.out) | exact HB.out)⟩
  ·rw [if_neg c4] at H
   exact absurd H (by simp)
 ·rw [if_neg c3] at H
  exact absurd H (by simp)
end Go.Proofs.YtbamnonamdpooaaDoor.PB1
namespace Go.Proofs.YtbamnonamdpooaaDoor.PB1
open Go.RowKit Go.Proofs.YtbamnonamdpooaaDoorW.PrintWords Go.Proofs.YtbamnonamdpooaaDoorW.PrintLast Go.Proofs.YtbamnonamdpooaaDoorW.PrintMore
attribute [local go_sem] max2_int min2_int max_two min_two max_three min_three max_four min_four   -- for this text's walks alone
set_option linter.unusedVariables false
set_option linter.unusedSimpArgs false
end Go.Proofs.YtbamnonamdpooaaDoor.PB1
