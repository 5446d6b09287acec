/- Parts of the proof, put together by a program of the session. -/
import Derived.Test.YtbamnonamdpooaaDoorCore3
import Derived.Test.YtbamnonamdpooaaDoorProg
import Derived.Below
import Derived.Deep.Draws
import Derived.Deep.AppendLies
import Derived.Maps.AppendAt
import Derived.OwnWalk
import Derived.Laws.BytesArg
import Derived.Laws.MakeOwn
import Derived.Laws.OwnMore
import Derived.Deep.OwnRows
import Derived.Tactics
import Derived.Lib.ConvBytes
import Derived.Laws.Slices
import Derived.WalkKit
import Derived.KernelRfl
import Derived.RowKit3
import Derived.Deep.LoopGhost
import Derived.Deep.QuietTactic
import Derived.BigQuiet
import Derived.WideLaws
import Derived.Deep.DeepCutAuto
import Derived.Deep.CutBlock
import Derived.Deep.RegionHeld3
import Derived.Laws.Rows
import Derived.Lib.AppendStr
import Derived.ArgAppend
import Derived.Laws.IdiomCopy
import Derived.OrdersHeld
import Derived.Laws.BitsLemmas
import Derived.RowKit
import Derived.ChangeKeysEq
import Derived.Test.YtbamnonamdpooaaDoorCore2
import Derived.Test.YtbamnonamdpooaaDoorCWords
import Derived.Test.YtbamnonamdpooaaDoorCLast
import Derived.Test.YtbamnonamdpooaaDoorCTab
import Derived.Test.YtbamnonamdpooaaDoorCFour
import Derived.Test.YtbamnonamdpooaaDoorCQPut
import Derived.Test.YtbamnonamdpooaaDoorCApart
import Derived.Test.YtbamnonamdpooaaDoorCArr
import Derived.Test.YtbamnonamdpooaaDoorCZeros
import Derived.Test.YtbamnonamdpooaaDoorCFoot
import Derived.Test.YtbamnonamdpooaaDoorCKept
import Derived.Test.YtbamnonamdpooaaDoorCShare
import Derived.Test.YtbamnonamdpooaaDoorCN
import Derived.Test.YtbamnonamdpooaaDoorCFootNe
import Derived.Test.YtbamnonamdpooaaDoorCAt
import Derived.Test.YtbamnonamdpooaaDoorCEqStruct
import Derived.Test.YtbamnonamdpooaaDoorCRepsOne
import Derived.Test.YtbamnonamdpooaaDoorCInv
import Derived.Test.YtbamnonamdpooaaDoorCInvWords
import Derived.Test.YtbamnonamdpooaaDoorCGuard
import Derived.Test.YtbamnonamdpooaaDoorCNEv
import Derived.Test.YtbamnonamdpooaaDoorCMore
namespace Go.Proofs.YtbamnonamdpooaaDoor.Tw
set_option linter.unusedVariables false
set_option linter.unusedSimpArgs false
open Go.RowKit Go.Proofs.YtbamnonamdpooaaDoorW.PrintWords Go.Proofs.YtbamnonamdpooaaDoorW.PrintLast Go.Proofs.YtbamnonamdpooaaDoorW.PrintMore Go.Proofs.YtbamnonamdpooaaDoor.Mp Go.Proofs.YtbamnonamdpooaaDoor.Kp Go.Proofs.YtbamnonamdpooaaDoor.Mg Go.Proofs.YtbamnonamdpooaaDoor.Tdy Go.Proofs.YtbamnonamdpooaaDoor.Rg
set_option maxHeartbeats 8000000 in
set_option maxRecDepth 100000 in
theorem tidied (tapes start : Int) (accs0 : List Bool) (rows0 : List (List Int)) (wd : Nat) (hwd1 : 0 < wd) (hwd2 : wd ≤ 30)
  (w : World) (gp : Nat) (AA : Option Addr) (ca : Nat) (AN : Option Addr) (cn : Nat) (hP : w.heap[gp]? = some (.cells #[.int .i64 tapes, .int .i64 start, .slice AA accs0.length ca, .slice AN rows0.length cn] 29 (0, 0)))
  (PP : List Bool → List (List Nat) → Prop)
  (hright : ∀ W, Below w.heap.size w W → Calls Tryd.prog 108 #[.pointer (some ⟨gp, 0, none⟩)] W fun e W' => ∃ (accs : List Bool) (rows : List (List Nat)), PP accs rows ∧ ∃ (vA vN : Value), e = .returned (.agg #[.int .i64 tapes, .int .i64 0, vA, vN]) ∧
   Kd.R Kd.bool 4 W' W.heap.size (fun _ => True) vA accs ∧ Kd.R (Kd.slice 2 (Kd.int .i64)) 86 W' W.heap.size (fun _ => True) vN (rows.map ints) ∧ Below W.heap.size W W')
  (hfin0 : ∀ (accs : List Bool) (rows : List (List Nat)), PP accs rows → ∀ (W : World) (gx : Nat) (A2 : Option Addr) (c2 : Nat) (A3 : Option Addr) (c3 : Nat) (A1 : Option Addr) (c1 : Nat) (g : List Nat), W.heap[gx]? = some (.cells #[.int .i64 tapes, .int .i64 0, .slice A2 accs.length c2, .slice A3 rows.length c3] 29 (0, 0)) → Kd.C Kd.bool W A2 accs.length accs → accs.length ≤ c2 → Kd.C (Kd.slice 2 (Kd.int .i64)) W A3 rows.length (rows.map ints) → rows.length ≤ c3 → Kd.C (Kd.int .i64) W A1 g.length (ints g) → g.length ≤ c1 → g.length = rows.length →
   Calls Tryd.prog 109 #[.pointer (some ⟨gx, 0, none⟩), .slice A1 g.length c1] W fun e W' => ∃ v0 : Value, e = .returned (.tuple #[v0, .int .i64 ((number (keys rows g) []).2.length : Int)]) ∧ (Kd.int .i64).R 2 W' W.heap.size (fun _ => True) v0 (ints (number (keys rows g) []).1) ∧ Below W.heap.size W W')
  (bs : List Bool) (rws : List (List Nat))
  (hPf : ∀ (accs : List Bool) (rows : List (List Nat)), PP accs rows → Closed wd rows accs ∧ rows.length ≤ 1000000 ∧ 0 < rows.length ∧ ∃ f1 g f2 m, classes rows f1 (first accs) 0 = some g ∧ byState wd rows g 0 f2 = some (some (m, rws)) ∧ m.map (fun q => accs.getD q false) = bs) :
  Calls Tryd.prog 48 #[.pointer (some ⟨gp, 0, none⟩)] w fun e w' => ∃ (vA vN : Value), e = .returned (.agg #[.int .i64 tapes, .int .i64 0, vA, vN]) ∧
   Kd.R Kd.bool 4 w' w.heap.size (fun _ => True) vA bs ∧ Kd.S (Kd.slice 2 (Kd.int .i64)) 86 w' w.heap.size (fun _ => True) vN (rws.map ints) ∧ Below w.heap.size w w' := by
 have hgp := blk_lt hP
 go_enter Tryd.func48, Tryd.ntmps48
 go_wp2_with (first
  | (go_at_call 108; go_loud (with_reducible refine (hright _ (below_alloc (Below.refl _ _) _)).mono ?_; rintro e w1 ⟨accs, rows, hPP, vA, vN, rfl, r1, r2, hb1⟩; obtain ⟨hcl, hn, hn0, f1, g, f2, m, hc0, hb0, hbs0⟩ := hPf _ _ hPP; have hlen := Aside0.mk hcl.len; have hcls := Aside0.mk hc0; have hnA : accs.length ≤ 1000000 := (by rw [← hcl.len]; exact hn); have hb2 := Aside0.mk hb0; have hbss := Aside0.mk hbs0; clear hc0 hb0 hbs0; have hfin := hfin0 accs rows hPP; clear hfin0 hPf hPP; obtain ⟨A1, c1, rfl, hc1, hC1⟩ := Kd.R_reads r1; obtain ⟨A2, c2, rfl, hc2, hC2⟩ := Kd.R_reads r2; simp only [List.length_map] at hc2 hC2))
  | ((with_reducible refine gate_dst (N := 22) rfl ?_); go_loud (
    have bR1 := blk_below (blk_new w (.cells #[.int .i64 0, .int .i64 0, .slice none 0 0, .slice none 0 0] 29)) hb1
    have bP1 := blk_below (blk_alloc hP (.cells #[.int .i64 0, .int .i64 0, .slice none 0 0, .slice none 0 0] 29)) hb1
    have hB1 := below_step (below_alloc (Below.refl w.heap.size w) (.cells #[.int .i64 0, .int .i64 0, .slice none 0 0, .slice none 0 0] 29)) hb1
    obtain ⟨wA, hWA⟩ : ∃ wA : World, wA = w1.alloc (.cells #[.int .i64 tapes, .int .i64 0, .slice A1 accs.length c1, .slice A2 rows.length c2] 29) := ⟨_, rfl⟩
    have fX : wA.heap[w1.heap.size]? = some (.cells #[.int .i64 tapes, .int .i64 0, .slice A1 accs.length c1, .slice A2 rows.length c2] 29 (0, 0)) := by rw [hWA]; exact blk_new _ _
    have fR : wA.heap[w.heap.size]? = some (.cells #[.int .i64 0, .int .i64 0, .slice none 0 0, .slice none 0 0] 29 (0, 0)) := by rw [hWA]; exact blk_alloc bR1 _
    have fP : wA.heap[gp]? = some (.cells #[.int .i64 tapes, .int .i64 start, .slice AA accs0.length ca, .slice AN rows0.length cn] 29 (0, 0)) := by rw [hWA]; exact blk_alloc bP1 _
    have cA : Kd.C Kd.bool wA A1 accs.length accs := by rw [hWA]; exact Kd.C_below hC1 (below_alloc (Below.refl _ _) _)
    have cN : Kd.C (Kd.slice 2 (Kd.int .i64)) wA A2 rows.length (rows.map ints) := by rw [hWA]; exact Kd.C_below hC2 (below_alloc (Below.refl _ _) _)
    have bA : Below w.heap.size w wA := by rw [hWA]; exact below_alloc hB1 _
    rw [← hWA]
    generalize w1.heap.size = gX at *
    clear hWA bR1 bP1 hB1 hC1 hC2 r1 r2 hb1
    refine Kd.R_make (Kd.int .i64) (w0 := wA) wA.heap.size 2 rfl (N := 22) rfl 86 _ _ rfl (accs.length : Int) rfl rfl Tryd.underlying86 (.int .i64 0) 8 info_long rfl (by decide) (by decide) (0 : Int) (ok := fun _ => True) (okp := fun _ => False) rfl (fun _ h => h.elim) trivial (by omega) (by have := hlen.out; simp; omega) (Below.refl _ _) (Nat.le_refl _) ?_
    intro v2 w2 hR2 hb2 hg2 hn2
    simp only [Int.toNat_natCast] at hR2
    obtain ⟨gC, cC, hv2, hgC, _, _⟩ := Kd.R_form hR2 (by have := hlen.out; simp; omega)
    subst hv2
    rw [List.length_replicate] at hR2)))
 have hz0 : grpTo accs 0 = List.replicate accs.length 0 := grpTo_zero accs
 have hS2 : SR w2 wA.heap.size (.slice (some ⟨gC, 0, none⟩) accs.length cC) (ints (grpTo accs 0)) := by rw [hz0, ints_replicate]; exact hR2
 clear hz0 hR2 hg2 hn2
 go_loopg [5] accs.length (fun kq v5 wr => ∃ i : Nat, v5 = .int .i64 (i : Int) ∧ Aside0 (kq = accs.length - i) ∧ i ≤ accs.length ∧ Aside0 (Below wA.heap.size wA wr) ∧ Aside0 (SR wr wA.heap.size (.slice (some ⟨gC, 0, none⟩) accs.length cC) (ints (grpTo accs i))))
 case atStart => exact ⟨0, rfl, ⟨by simp⟩, Nat.zero_le _, ⟨hb2⟩, ⟨hS2⟩⟩
 case round =>
  clear hb2 hS2
  obtain ⟨i, rfl, hkq, hil, hb, hS⟩ := hrel
  replace hb := hb.out
  replace hS := hS.out
  have e2 : wr.cell? ⟨gX, 2, none⟩ = some (.slice A1 accs.length c1) := (blk_cell (blk_below fX hb) 2).trans rfl
  by_cases hlt : i < accs.length
  ·have hlt1 : ((i : Int) < (accs.length : Int)) = True := eq_true (by omega)
   have h0i : (0 ≤ (i : Int)) = True := eq_true (by omega)
   obtain ⟨ad, rfl, k1⟩ := at_mark (Kd.C_below cA hb) i hlt
   have hl : (ints (grpTo accs i)).length = accs.length := by rw [ints_length, grpTo_length accs hil]
   obtain ⟨hbT, cells, hcT⟩ := row_blk hS (by rw [hl]; omega)
   have f1 : wr.frozen? ⟨gC, i, none⟩ = false := blk_frozen hcT i
   have k2 := sr_at hS (i := i) (by rw [hl]; exact hlt)
   have hs := grpTo_step accs hlt
   cases hm : accs[i] with
   | false =>
    rw [hm, if_neg (by simp)] at hs
    rw [hm] at k1
    have hS2 : SR wr wA.heap.size (.slice (some ⟨gC, 0, none⟩) accs.length cC) (ints (grpTo accs (i + 1))) := by rw [hs]; exact hS
    clear hs hm hl hcT k2 f1
    go_wp2_with fail
    go_roundg (accs.length - (i + 1))
    case measure => have := hkq.out; omega
    case rel => exact ⟨i + 1, (by go_num), ⟨by simp⟩, by omega, ⟨hb⟩, ⟨hS2⟩⟩
   | true =>
    rw [hm, if_pos rfl] at hs
    rw [hm] at k1
    have hS2 : SR (wr.setCell ⟨gC, i, none⟩ (.int .i64 1)) wA.heap.size (.slice (some ⟨gC, 0, none⟩) accs.length cC) (ints (grpTo accs (i + 1))) := by
     rw [hs, ← ints_set]
     exact Kd.R_putn hS (i : Int) 1
    have hb3 := hb.setCell (p := ⟨gC, i, none⟩) hbT (.int .i64 1)
    generalize (ints (grpTo accs i))[i]'(by rw [hl]; exact hlt) = oi at *
    clear hs hm hl hcT hS hb
    go_wp2_with fail
    go_roundg (accs.length - (i + 1))
    case measure => have := hkq.out; omega
    case rel => exact ⟨i + 1, (by go_num), ⟨by simp⟩, by omega, ⟨hb3⟩, ⟨hS2⟩⟩
  ·have hii : i = accs.length := by omega
   subst i
   have hlt1 : ((accs.length : Int) < (accs.length : Int)) = False := eq_false (by omega)
   rw [grpTo_all] at hS
   go_wp2_with fail
   clear e2
   go_loopg [4, 6] f1 (fun kq v4 v6 wr => ∃ (g' : List Nat) (n' : Nat) (A4 : Option Addr) (c4 : Nat), v4 = .slice A4 g'.length c4 ∧ v6 = .int .i64 (n' : Int) ∧ Aside0 (classes rows kq g' n' = some g) ∧ Aside0 (g'.length = rows.length) ∧ Aside0 (Below wA.heap.size wA wr) ∧ Aside0 (SR wr wA.heap.size (.slice A4 g'.length c4) (ints g')))
   case atStart => exact ⟨first accs, 0, some ⟨gC, 0, none⟩, cC, congrArg (fun n => Value.slice (some ⟨gC, 0, none⟩) n cC) (first_len accs).symm, rfl, hcls, ⟨by rw [first_len]; exact hlen.out.symm⟩, ⟨hb⟩, ⟨by rw [first_len]; exact hS⟩⟩
   case round =>
    clear hb hS hkq hlt
    obtain ⟨g', n', A4, c4, rfl, rfl, hcl2, hgl, hb, hS⟩ := hrel
    replace hb := hb.out
    replace hS := hS.out
    obtain ⟨hq1, hq2, hCg⟩ := Kd.R_reads' hS
    cases gk with
    | zero => exact absurd hcl2.out (by simp [classes])
    | succ kf =>
    have hst := hcl2.out
    unfold classes at hst
    have hnu := (number_spec (keys rows g') [] List.Pairwise.nil).len
    have hon := (number_spec (keys rows g') [] List.Pairwise.nil).onto
    have hlk : (keys rows g').length = rows.length := by simp [keys]
    obtain ⟨out, hout⟩ : ∃ out, (number (keys rows g') []).1 = out := ⟨_, rfl⟩
    obtain ⟨L, hL⟩ : ∃ L, (number (keys rows g') []).2.length = L := ⟨_, rfl⟩
    have hF := fun W gx A2 c2 A3 c3 A1 c1 => hfin W gx A2 c2 A3 c3 A1 c1 g'
    rw [hout, hlk] at hnu
    rw [hL, hout, hlk] at hon
    rw [hL, hout] at hst
    rw [hL, hout] at hF
    have hst2 := Aside0.mk hst
    have hnu2 := Aside0.mk hnu
    have hon2 := Aside0.mk hon
    clear hst hnu hout hL hlk hcl2 hq1 hon
    have hF2 := Aside0.mk hF
    clear hF
    by_cases hLn : L = n'
    ·subst hLn
     have hog : out = g := by
      have h := hst2.out
      rw [if_pos rfl] at h
      exact Option.some.inj h
     clear hst2
     subst out
     have hL1 : L ≤ 1000000 := Nat.le_trans hon2.out.le_n hn
     have hL0 : 0 < L := Nat.lt_of_le_of_lt (Nat.zero_le _) (hon2.out.lt 0 hn0)
     go_wp2_with (first
      | (go_at_call 109; go_loud (with_reducible refine (hF2.out _ gX A1 c1 A2 c2 A4 c4 (blk_below fX hb) (Kd.C_below cA hb) hc1 (Kd.C_below cN hb) hc2 (by rw [ints_length] at hCg; exact hCg) hq2 hgl.out).mono ?_; rintro e w3 ⟨v0, rfl, r3, hb3⟩; obtain ⟨A5, c5, hv⟩ := Kd.R_slice r3; rw [ints_length] at hv; subst hv))
      | ((with_reducible refine gate_dst (N := 49) rfl ?_); go_loud (
        have hb5 := below_step hb hb3
        obtain ⟨hq9, hq3, cG⟩ := Kd.R_reads' r3
        clear hq9
        rw [ints_length] at cG
        have fX3 := blk_below fX hb5
        have fR3 := blk_below fR hb5
        have fP3 := blk_below fP hb5
        have cA3 := Kd.C_below cA hb5
        have cN3 := Kd.C_below cN hb5
        have bW := below_step bA hb5
        clear hF2 hCg hS hb hb3 hb5 r3 fX fR fP cA cN bA hfin hright hq2
        refine Kd.R_make (Kd.int .i64) (w0 := w3) w3.heap.size 2 rfl (N := 49) rfl 86 _ _ rfl (L : Int) rfl rfl Tryd.underlying86 (.int .i64 0) 8 info_long rfl (by decide) (by decide) (0 : Int) (ok := fun _ => True) (okp := fun _ => False) rfl (fun _ h => h.elim) trivial (by omega) (by simp; omega) (Below.refl _ _) (Nat.le_refl _) ?_
        intro v2 w4 hR4 hb4 hg4 hn4
        simp only [Int.toNat_natCast] at hR4
        obtain ⟨gT, cT, hv2, hgT, _, _⟩ := Kd.R_form hR4 (by simp; omega)
        subst hv2
        rw [List.length_replicate] at hR4)))
     clear hg4 hn4
     go_loopg [10] L (fun kq v10 wq => ∃ k : Nat, v10 = .int .i64 (k : Int) ∧ Aside0 (kq = L - k) ∧ k ≤ L ∧ Aside0 (Below w3.heap.size w3 wq) ∧ Aside0 (SR wq w3.heap.size (.slice (some ⟨gT, 0, none⟩) L cT) (List.replicate k (-1) ++ List.replicate (L - k) 0)))
     case atStart => exact ⟨0, rfl, ⟨by simp⟩, Nat.zero_le _, ⟨hb4⟩, ⟨by simpa using hR4⟩⟩
     case round =>
      clear hb4 hR4
      obtain ⟨k, rfl, hkq, hkl, hb4, hR⟩ := hrel
      replace hb4 := hb4.out
      replace hR := hR.out
      by_cases hlt2 : k < L
      ·have hl : (List.replicate k (-1 : Int) ++ List.replicate (L - k) 0).length = L := by simp; omega
       obtain ⟨hbT, cells, hcT⟩ := row_blk hR (by rw [hl]; omega)
       have k1 := sr_at hR (i := k) (by rw [hl]; exact hlt2)
       have f1 : wr.frozen? ⟨gT, k, none⟩ = false := blk_frozen hcT k
       have hR2 : SR (wr.setCell ⟨gT, k, none⟩ (.int .i64 (-1))) w3.heap.size (.slice (some ⟨gT, 0, none⟩) L cT) ((List.replicate k (-1 : Int) ++ List.replicate (L - k) 0).set k (-1)) := Kd.R_putn hR (k : Int) (-1)
       have hb6 := hb4.setCell (p := ⟨gT, k, none⟩) hbT (.int .i64 (-1))
       rw [fill_step L k hlt2] at hR2
       generalize (List.replicate k (-1 : Int) ++ List.replicate (L - k) 0)[k]'(by rw [hl]; exact hlt2) = oi at *
       clear hl hcT cells hR hb4
       have hlt3 : ((k : Int) < (L : Int)) = True := eq_true (by omega)
       have h0k : (0 ≤ (k : Int)) = True := eq_true (by omega)
       go_wp2_with fail
       go_roundg (L - (k + 1))
       case measure => have := hkq.out; omega
       case rel => exact ⟨k + 1, (by go_num), ⟨by simp⟩, by omega, ⟨hb6⟩, ⟨hR2⟩⟩
      ·have hkk : k = L := by omega
       subst k
       have hlt3 : ((L : Int) < (L : Int)) = False := eq_false (by omega)
       have hl0 : List.replicate L (-1 : Int) ++ List.replicate (L - L) 0 = List.replicate L (-1) := by simp
       rw [hl0] at hR
       clear hl0
       have hgl1 : 0 < g.length := by rw [hnu2.out]; exact hn0
       obtain ⟨q0, hq0⟩ : ∃ q0 : Nat, g.getD 0 0 = q0 := ⟨_, rfl⟩
       have hq0L : q0 < L := by rw [← hq0]; exact hon2.out.lt 0 hn0
       have hq0g : g[0] = q0 := by rw [← hq0]; simp [List.getD_eq_getElem?_getD, hgl1]
       have hA4 := below_alloc hb4 (.cells #[.int .i64 0] 2)
       have d1 : wr.cell? ⟨gX, 1, none⟩ = some (.int .i64 0) := (blk_cell (blk_below fX3 hb4) 1).trans rfl
       have d3 : (wr.alloc (.cells #[.int .i64 0] 2)).cell? ⟨gX, 1, none⟩ = some (.int .i64 0) := (blk_cell (blk_below fX3 hA4) 1).trans rfl
       obtain ⟨a5, rfl, kg⟩ := at_num (Kd.C_below cG hA4) 0 (by rw [ints_length]; exact hgl1)
       rw [ints_get g 0 _ hgl1, hq0g] at kg
       have kg2 : (wr.alloc (.cells #[.int .i64 0] 2)).cell? a5 = some (.int .i64 (q0 : Int)) := by
        have e : a5.add 0 = a5 := by simp [Addr.add]
        rw [e] at kg
        exact kg
       have hR4 := Kd.R_below hR (below_alloc (Below.refl _ _) (.cells #[.int .i64 0] 2))
       have k1 := sr_at hR4 (i := q0) (by rw [List.length_replicate]; exact hq0L)
       obtain ⟨hbT, cells, hcT⟩ := row_blk hR4 (by rw [List.length_replicate]; omega)
       have f1 : (wr.alloc (.cells #[.int .i64 0] 2)).frozen? ⟨gT, q0, none⟩ = false := blk_frozen hcT q0
       have hgT1 := Kd.R_lt hR gT rfl
       have hb6 := hb4.setCell (p := ⟨gT, q0, none⟩) hbT (.int .i64 0)
       have hb7 := below_alloc hb6 (.cells #[.int .i64 0] 2)
       have hR6 : SR (wr.setCell ⟨gT, q0, none⟩ (.int .i64 0)) w3.heap.size (.slice (some ⟨gT, 0, none⟩) L cT) ((List.replicate L (-1 : Int)).set q0 0) := Kd.R_putn hR (q0 : Int) 0
       have hR7 := Kd.R_below hR6 (below_alloc (Below.refl _ _) (.cells #[.int .i64 0] 2))
       have hszw : (wr.setCell ⟨gT, q0, none⟩ (.int .i64 0)).heap.size = wr.heap.size := by simp [World.setCell]
       have hL6 : SR ((wr.setCell ⟨gT, q0, none⟩ (.int .i64 0)).alloc (.cells #[.int .i64 0] 2)) w3.heap.size (.slice (some ⟨wr.heap.size, 0, none⟩) 1 1) (ints [0]) := by
        rw [← hszw]
        exact R_one (Kd.int .i64) 2 _ _ (by rw [hszw]; exact Below.size hb4) (ok := fun _ => True) (okp := fun _ => False) (cs := [.int .i64 0]) rfl (fun _ h => h.elim) trivial
       have d4 : ((wr.setCell ⟨gT, q0, none⟩ (.int .i64 0)).alloc (.cells #[.int .i64 0] 2)).cell? ⟨gp, 0, none⟩ = some (.int .i64 tapes) := (blk_cell (blk_below fP3 hb7) 0).trans rfl
       clear hszw hR6 hb6
       have hlt4 : ((q0 : Int) < (L : Int)) = True := eq_true (by omega)
       have h0q : (0 ≤ (q0 : Int)) = True := eq_true (by omega)
       have hgl2 : (0 < g.length) = True := eq_true hgl1
       have hgl3 : ((0 : Int) < (g.length : Int)) = True := eq_true (by omega)
       have hq2 := Aside0.mk hq0
       have hTab := Aside0.mk (tab_start hq0L)
       clear hq0 hq0g hcT cells
       go_wp2_with fail
       clear d1 d3 d4 kg kg2 k1 f1 hR4 hA4 hb4 hR hlt4 h0q hgl2 hgl3
       generalize hWW : (wr.setCell ⟨gT, q0, none⟩ (.int .i64 0)).alloc (.cells #[.int .i64 0] 2) = wx at *
       have hwx : wx.heap.size = wr.heap.size + 1 := by rw [← hWW]; simp [World.setCell]
       have hsl : w3.heap.size ≤ wr.heap.size := by have := Below.size hb7; have := hbT; omega
       generalize hgg : wr.heap.size + 1 = gV at *
       have h5 : Tt w3 tapes gV gT L cT ((List.replicate L (-1 : Int)).set q0 0) (.slice (some ⟨wr.heap.size, 0, none⟩) 1 1) [0] (.slice none 0 0) [] (.slice none 0 0) [] (.slice none 0 0) [] (wx.alloc (.cells #[.int .i64 tapes, .int .i64 0, .slice none 0 0, .slice none 0 0] 29)) :=
        ⟨blk_at _ _ _ hwx.symm, Kd.R_below hR7 (below_alloc (Below.refl _ _) _), Kd.R_below hL6 (below_alloc (Below.refl _ _) _), Kd.R_nil _ _ _ _ _, Kd.R_nil _ _ _ _ _, Kd.S_nil _ _ _ _ _, (fun e => by have : gT = wr.heap.size := Option.some.inj e; omega), (fun e => by cases e), (fun k _ e => by cases e), by omega, below_alloc hb7 _⟩
       have hTab2 : Aside0 (Tab L ([0].map (kyF g)) ((List.replicate L (-1 : Int)).set q0 0)) := ⟨by have h := hTab.out; rw [← hq2.out] at h ⊢; exact h⟩
       have hbs : Aside0 (bfs (kyF g) (nxF rows) (List.range wd) 0 f2 0 [0] [] = some (some (m, rws))) := ⟨hb2.out⟩
       clear hTab hR7 hL6 hb7 hWW hwx hsl hgg hgT1 hkq hb2
       go_loopg [11, 13] f2 (fun kf v11 v13 wr => ∃ (i : Nat) (li : List Nat) (rw_ : List (List Nat)) (tab : List Int) (AL : Option Addr) (cL : Nat) (vA vN : Value), v11 = .slice AL li.length cL ∧ v13 = .int .i64 (i : Int) ∧ Aside0 (bfs (kyF g) (nxF rows) (List.range wd) 0 kf i li rw_ = some (some (m, rws))) ∧ Aside0 (rw_.length = i) ∧ i ≤ li.length ∧ Aside0 (∀ q ∈ li, q < rows.length) ∧ Aside0 (Tab L (li.map (kyF g)) tab) ∧
        Aside0 (Tt w3 tapes gV gT L cT tab (.slice AL li.length cL) li (.slice none 0 0) [] vA ((li.take i).map (acF accs)) vN rw_ wr))
       case atStart => exact ⟨0, [0], [], _, _, _, _, _, rfl, rfl, hbs, ⟨rfl⟩, Nat.zero_le _, ⟨fun q hq => by rw [List.mem_singleton.1 hq]; exact hn0⟩, hTab2, ⟨h5⟩⟩
       case round =>
        clear h5 hTab2 hbs
        obtain ⟨wo, rfl⟩ : ∃ wo : World, wo = wr := ⟨_, rfl⟩
        obtain ⟨i, li, rw_, tab, AL, cL, vA, vN, rfl, rfl, H, hrl, hil, hQl, hTab, h⟩ := hrel
        replace h := h.out
        have hliL := tab_le hTab.out
        by_cases hlt : i < li.length
        ·cases gk with
         | zero => exact absurd H.out (by simp [bfs])
         | succ kf =>
         have H1 := H.out
         unfold bfs at H1
         rw [dif_pos hlt, if_neg (by omega)] at H1
         have HH := Aside0.mk H1
         clear H1 H
         have hkr : li[i] < rows.length := hQl.out _ (List.getElem_mem hlt)
         have hki := Aside0.mk (List.getElem?_eq_getElem hlt)
         have hgT2 := Kd.R_lt h.tab gT rfl
         have h0 := h.begin hgT2
         generalize hk : li[i] = k at *
         have HK := Aside0.mk hk
         clear hk
         have hlt1 : ((i : Int) < (li.length : Int)) = True := eq_true (by omega)
         have h0i : (0 ≤ (i : Int)) = True := eq_true (by omega)
         go_wp2_with fail
         clear h
         go_loopg [11, 14, 15] wd (fun kq v11 v14 v15 wq => ∃ (c : Nat) (lj r : List Nat) (tab2 : List Int) (A' : Option Addr) (c' : Nat) (Ar : Option Addr) (cr : Nat), v11 = .slice A' lj.length c' ∧ v14 = .slice Ar r.length cr ∧ v15 = .int .i64 (c : Int) ∧ c ≤ wd ∧ Aside0 (kq = wd - c) ∧ Aside0 (r.length = c) ∧ Aside0 ((row (kyF g) (nxF rows) k ((List.range wd).drop c) lj).1 = (row (kyF g) (nxF rows) k (List.range wd) li).1 ∧ r ++ (row (kyF g) (nxF rows) k ((List.range wd).drop c) lj).2 = (row (kyF g) (nxF rows) k (List.range wd) li).2) ∧ Aside0 (∀ q ∈ lj, q < rows.length) ∧ Aside0 (lj[i]? = some k) ∧ Aside0 (Tab L (lj.map (kyF g)) tab2) ∧
          Aside0 (Tt w3 tapes gV gT L cT tab2 (.slice A' lj.length c') lj (.slice Ar r.length cr) r vA ((li.take i).map (acF accs)) vN rw_ wq))
         case atStart => exact ⟨0, li, [], _, _, _, _, _, rfl, rfl, rfl, Nat.zero_le _, ⟨by simp⟩, ⟨rfl⟩, ⟨by simp⟩, ⟨hQl.out⟩, hki, hTab, ⟨h0⟩⟩
         case round =>
          clear h0
          obtain ⟨c, lj, r, tab2, A', c', Ar, cr, rfl, rfl, rfl, hcw, hkq, hrc, HR, hQj, hji, hTj, hq⟩ := hrel
          replace hq := hq.out
          have hjl := tab_le hTj.out
          have hij : i < lj.length := (List.getElem?_eq_some_iff.1 hji.out).1
          obtain ⟨a7, rfl, e7⟩ := sr_at' hq.lst (i := i) (by rw [ints_length]; exact hij)
          rw [ints_get lj i _ hij, (List.getElem?_eq_some_iff.1 hji.out).2] at e7
          have e3 : wr.cell? ⟨gX, 3, none⟩ = some (.slice A2 rows.length c2) := (blk_cell (blk_below fX3 hq.bel) 3).trans rfl
          obtain ⟨a2, rfl, A9, c9, e9, hl9, hC9⟩ := at_row (Kd.C_below cN3 hq.bel) k (by rw [List.length_map]; exact hkr)
          rw [List.getElem_map, ints_length, hcl.wide _ (List.getElem_mem hkr)] at e9 hl9 hC9
          have hlt4 : ((i : Int) < (lj.length : Int)) = True := eq_true (by omega)
          have hkr2 : ((k : Int) < (rows.length : Int)) = True := eq_true (by omega)
          have h0k : (0 ≤ (k : Int)) = True := eq_true (by omega)
          by_cases hc : c < wd
          ·have hd : (List.range wd).drop c = c :: (List.range wd).drop (c + 1) := by
            rw [List.drop_eq_getElem_cons (by simpa using hc)]; simp
           have HR1 := HR.out
           rw [hd] at HR1
           clear HR hd
           have hcr : c < rows[k].length := by rw [hcl.wide _ (List.getElem_mem hkr)]; exact hc
           obtain ⟨ad9, rfl, et⟩ := at_num hC9 c (by rw [ints_length]; exact hcr)
           rw [ints_get _ c _ hcr, ← nxF_get hkr hcr] at et
           have htr : nxF rows k c < rows.length := hcl.step hkr hc
           have hgt : nxF rows k c < g.length := by rw [hnu2.out]; exact htr
           obtain ⟨a5', e5', eg⟩ := at_num (Kd.C_below cG hq.bel) (nxF rows k c) (by rw [ints_length]; exact hgt)
           cases e5'
           rw [ints_get _ _ _ hgt, ← kyF_get hgt] at eg
           have hkL : kyF g (nxF rows k c) < L := hon2.out.lt _ htr
           have hfd := tab_find hTj.out hkL
           have hl2 : kyF g (nxF rows k c) < tab2.length := by rw [hTj.out.len]; exact hkL
           have etab := sr_at hq.tab hl2
           obtain ⟨hbT2, cells, hcT⟩ := row_blk hq.tab (by omega)
           have fT : wr.frozen? ⟨gT, kyF g (nxF rows k c), none⟩ = false := blk_frozen hcT _
           have hlt2 : ((c : Int) < (wd : Int)) = True := eq_true (by omega)
           have h0c : (0 ≤ (c : Int)) = True := eq_true (by omega)
           have htg : ((nxF rows k c : Int) < (g.length : Int)) = True := eq_true (by omega)
           have h0t : (0 ≤ (nxF rows k c : Int)) = True := eq_true (by omega)
           have hkL1 : ((kyF g (nxF rows k c) : Int) < (L : Int)) = True := eq_true (by omega)
           have h0L : (0 ≤ (kyF g (nxF rows k c) : Int)) = True := eq_true (by omega)
           clear hcT cells
           have hgk : Aside0 (∀ W, Below w3.heap.size w3 W → W.cell? (a5.add (nxF rows k c)) = some (.int .i64 (kyF g (nxF rows k c) : Int))) := ⟨fun W hW => by
            obtain ⟨a6, e6, k6⟩ := at_num (Kd.C_below cG hW) (nxF rows k c) (by rw [ints_length]; exact hgt)
            cases e6
            rw [ints_get _ _ _ hgt, ← kyF_get hgt] at k6
            exact k6⟩
           rcases hfd with ⟨hfn, hm1, hnm⟩ | ⟨j, hfj, hm1, hjl2⟩
           ·rw [row_none hfn] at HR1
            have HR := Aside0.mk HR1
            rw [List.getElem?_eq_getElem hl2] at hm1
            rw [Option.some.inj hm1] at etab
            have hTj2 := Aside0.mk (tab_push hTj.out hkL hnm)
            have hlL := tab_le hTj2.out
            have hq2 := hq.set hbT2 (kyF g (nxF rows k c)) (lj.length : Int)
            have htr2 := Aside0.mk htr
            rw [List.length_append, List.length_singleton] at hlL
            clear HR1 hfn hm1 hnm hgt hTj htr
            generalize kyF g (nxF rows k c) = kt at *
            generalize nxF rows k c = t at *
            have hm0 : ((-1 : Int) < 0) = True := eq_true (by omega)
            go_wp2_with fail
            go_quiet (fail)
            generalize nq = n1
            go_wp2_with fail
            go_quiet (fail)
            have h5 := hq2.step (pw_below_drewN (Below.refl _ _) (n1 + nq))
            go_wp2_with (first
             | ((with_reducible refine gate_builtin (b := .append) (xs := #[.tmp 120, .tmp 122]) rfl ?_); go_loud (at_builtin; refine R_append' (Kd.int .i64) (w0 := w3) w3.heap.size rfl (.tmp 120) (.tmp 122) 86 2 (.int .i64 0) 8 rfl Tryd.underlying86 info_long rfl (by decide) (by decide) (.slice (some a7) lj.length c') (ints lj) (t : Int) [.int .i64 (t : Int)] (fun _ => True) (fun _ => False) _ (by simp) rfl rfl rfl (fun _ h => h.elim) (fun _ _ => trivial) h5.lst h5.bel (Below.size h5.bel) (by rw [ints_length]; omega) ?_; intro v6 w6 hR6 hb6 hg6 hat6; obtain ⟨A8, c8, hv6⟩ := Kd.R_slice hR6; have ev6 : (ints lj ++ [(t : Int)]).length = lj.length + 1 := (by simp [ints, GwI.ints]); rw [ev6] at hv6; clear ev6; subst hv6; have h6 := h5.push (Kd.R_lt h5.tab gT rfl) hg6 hat6 hR6 hb6; have eg6 := hgk.out _ h6.bel; have et6 : w6.cell? ⟨gT, kt, none⟩ = some (.int .i64 (lj.length : Int)) := (by have h := sr_at h6.tab (i := kt) (by rw [List.length_set]; exact hl2); rw [List.getElem_set_self] at h; exact h)))
             | ((with_reducible refine gate_builtin (b := .append) (xs := #[.tmp 124, .tmp 132]) rfl ?_); go_loud (at_builtin; refine R_append' (Kd.int .i64) (w0 := w3) w3.heap.size rfl (.tmp 124) (.tmp 132) 86 2 (.int .i64 0) 8 rfl Tryd.underlying86 info_long rfl (by decide) (by decide) (.slice Ar r.length cr) (ints r) (lj.length : Int) [.int .i64 (lj.length : Int)] (fun _ => True) (fun _ => False) _ (by simp) rfl rfl rfl (fun _ h => h.elim) (fun _ _ => trivial) h6.row h6.bel (Below.size h6.bel) (by have := hrc.out; rw [ints_length]; omega) ?_; intro v7 w7 hR7 hb7 hg7 hat7; obtain ⟨A6, c6, hv7⟩ := Kd.R_slice hR7; have ev : (ints r ++ [(lj.length : Int)]).length = (r ++ [lj.length]).length := (by simp [ints, GwI.ints]); rw [ev] at hv7; clear ev; subst hv7; have h7 := h6.more (Kd.R_lt h6.tab gT rfl) hg7 hat7 hR7 hb7)))
            go_roundg (wd - (c + 1))
            case measure => have := hkq.out; omega
            case rel => exact ⟨c + 1, lj ++ [t], r ++ [lj.length], _, A8, c8, A6, c6, (by simp), (by simp), (by go_num), by omega, ⟨rfl⟩, ⟨by have := hrc.out; simp; omega⟩, ⟨HR.out.1, by rw [List.append_assoc]; exact HR.out.2⟩, ⟨fun q hq => (List.mem_append.1 hq).elim (hQj.out q) (fun h => by rw [List.mem_singleton.1 h]; exact htr2.out)⟩, ⟨by rw [List.getElem?_append_left hij]; exact hji.out⟩, hTj2, ⟨by have e : (lj ++ [t]).length = lj.length + 1 := (by simp); rw [e]; exact h7⟩⟩
           ·rw [row_some hfj] at HR1
            have HR := Aside0.mk HR1
            rw [List.getElem?_eq_getElem hl2] at hm1
            rw [Option.some.inj hm1] at etab
            clear HR1 hfj hm1 hgt fT htr
            generalize kyF g (nxF rows k c) = kt at *
            generalize nxF rows k c = t at *
            have hjn : ((j : Int) < 0) = False := eq_false (by omega)
            go_wp2_with fail
            go_quiet (fail)
            generalize nq = n1
            go_wp2_with fail
            go_quiet (fail)
            have h6 := hq.step (pw_below_drewN (Below.refl _ _) (n1 + nq))
            go_wp2_with (((with_reducible refine gate_builtin (b := .append) (xs := #[.tmp 124, .tmp 132]) rfl ?_); go_loud (at_builtin; refine R_append' (Kd.int .i64) (w0 := w3) w3.heap.size rfl (.tmp 124) (.tmp 132) 86 2 (.int .i64 0) 8 rfl Tryd.underlying86 info_long rfl (by decide) (by decide) (.slice Ar r.length cr) (ints r) (j : Int) [.int .i64 (j : Int)] (fun _ => True) (fun _ => False) _ (by simp) rfl rfl rfl (fun _ h => h.elim) (fun _ _ => trivial) h6.row h6.bel (Below.size h6.bel) (by have := hrc.out; rw [ints_length]; omega) ?_; intro v7 w7 hR7 hb7 hg7 hat7; obtain ⟨A6, c6, hv7⟩ := Kd.R_slice hR7; have ev : (ints r ++ [(j : Int)]).length = (r ++ [j]).length := (by simp [ints, GwI.ints]); rw [ev] at hv7; clear ev; subst hv7; have h7 := h6.more (Kd.R_lt h6.tab gT rfl) hg7 hat7 hR7 hb7)))
            go_roundg (wd - (c + 1))
            case measure => have := hkq.out; omega
            case rel => exact ⟨c + 1, lj, r ++ [j], tab2, some a7, c', A6, c6, rfl, (by simp), (by go_num), by omega, ⟨rfl⟩, ⟨by have := hrc.out; simp; omega⟩, ⟨HR.out.1, by rw [List.append_assoc]; exact HR.out.2⟩, hQj, hji, hTj, ⟨h7⟩⟩
          ·have hcc : c = wd := by omega
           subst hcc
           have HR1 := HR.out
           simp only [List.drop_of_length_le (Nat.le_of_eq (List.length_range (n := c))), row, List.append_nil] at HR1
           have HR2 := Aside0.mk HR1
           clear HR1 HR
           have hlt2 : ((c : Int) < (c : Int)) = False := eq_false (by omega)
           go_wp2_with fail
           go_quiet (fail)
           go_wp2_with fail
           have h4 := hq.step (pw_below_drewN (Below.refl _ _) nq)
           clear e7 e3 e9 hl9 hC9 hq
           generalize wr.drewN nq = wz at *
           have hka : k < accs.length := by rw [← hlen.out]; exact hkr
           obtain ⟨am, rfl, _⟩ := at_mark cA3 k hka
           have hka1 : ((k : Int) < (accs.length : Int)) = True := eq_true (by omega)
           obtain ⟨bx, hbx⟩ : ∃ bx, Aside0 (acF accs k = bx) := ⟨_, ⟨rfl⟩⟩
           have hB : ∀ W', Below w3.heap.size w3 W' → SR W' w3.heap.size (.slice (some a7) lj.length c') (ints lj) → W'.cell? ⟨gX, 2, none⟩ = some (.slice (some am) accs.length c1) ∧ W'.cell? (a7.add i) = some (.int .i64 (k : Int)) ∧ W'.cell? (am.add k) = some (.bool bx) := by
            intro W' hb hL
            obtain ⟨a8, e8, k8⟩ := sr_at' hL (i := i) (by rw [ints_length]; exact hij)
            cases e8
            rw [ints_get lj i _ hij, (List.getElem?_eq_some_iff.1 hji.out).2] at k8
            obtain ⟨a9, e9, k9⟩ := at_mark (Kd.C_below cA3 hb) k hka
            cases e9
            rw [← acF_get hka, hbx.out] at k9
            exact ⟨(blk_cell (blk_below fX3 hb) 2).trans rfl, k8, k9⟩
           have hSS : ∀ W' vA' bs', Tt w3 tapes gV gT L cT tab2 (.slice (some a7) lj.length c') lj (.slice Ar r.length cr) r vA' bs' vN rw_ W' → W'.cell? ⟨gV, 2, none⟩ = some vA' ∧ W'.cell? ⟨gX, 2, none⟩ = some (.slice (some am) accs.length c1) ∧ W'.cell? (a7.add i) = some (.int .i64 (k : Int)) ∧ W'.cell? (am.add k) = some (.bool bx) := fun W' vA' bs' h => ⟨(blk_cell h.bV 2).trans rfl, hB W' h.bel h.lst⟩
           have hQd := h4.step (below_drew1 (Below.refl _ _))
           refine start_ (n := 14) (S := fun w' => w'.cell? ⟨gV, 2, none⟩ = some vA ∧ w'.cell? ⟨gX, 2, none⟩ = some (.slice (some am) accs.length c1) ∧ w'.cell? (a7.add i) = some (.int .i64 (k : Int)) ∧ w'.cell? (am.add k) = some (.bool bx)) (ds := [13]) #[false, false, false, false, false, false, false, false, false, false, false, false, false, false] (by kernel_rfl) rfl rfl (hSS _ _ _ hQd) (fun hHeld => ?_)
           refine pure_ (i := 0) (N := some 134) (v := ?_) (a' := ?_) #[true, false, false, false, false, false, false, false, false, false, false, false, false, false] rfl rfl (by kernel_rfl) (fun _ _ _ h => h) (Or.inl ⟨by rfl, ?_⟩) ?_ ?_
           rotate_left
           ·intro w'
            go_simp
            with_reducible rfl
           rotate_left
           ·simp only [Act.put, List.setIfInBounds_toArray, List.set_cons_zero, List.set_cons_succ, i64_w, i32_w]
            rfl
           refine pure_ (i := 2) (N := some 136) (v := ?_) (a' := ?_) #[true, false, true, false, false, false, false, false, false, false, false, false, false, false] rfl rfl (by kernel_rfl) (fun _ _ _ h => h) (Or.inl ⟨by rfl, ?_⟩) ?_ ?_
           rotate_left
           ·intro w'
            go_simp
            with_reducible rfl
           rotate_left
           ·simp only [Act.put, List.setIfInBounds_toArray, List.set_cons_zero, List.set_cons_succ, i64_w, i32_w]
            rfl
           refine pure_ (i := 4) (N := some 138) (v := ?_) (a' := ?_) #[true, false, true, false, true, false, false, false, false, false, false, false, false, false] rfl rfl (by kernel_rfl) (fun _ _ _ h => h) (Or.inl ⟨by rfl, ?_⟩) ?_ ?_
           rotate_left
           ·intro w'
            go_simp
            with_reducible rfl
           rotate_left
           ·simp only [Act.put, List.setIfInBounds_toArray, List.set_cons_zero, List.set_cons_succ, i64_w, i32_w]
            rfl
           refine pure_ (i := 5) (N := some 139) (v := ?_) (a' := ?_) #[true, false, true, false, true, true, false, false, false, false, false, false, false, false] rfl rfl (by kernel_rfl) (fun _ _ _ h => h) (Or.inl ⟨by rfl, ?_⟩) ?_ ?_
           rotate_left
           ·intro w'
            go_simp
            with_reducible rfl
           rotate_left
           ·simp only [Act.put, List.setIfInBounds_toArray, List.set_cons_zero, List.set_cons_succ, i64_w, i32_w]
            rfl
           refine pure_ (i := 6) (N := some 140) (v := ?_) (a' := ?_) #[true, false, true, false, true, true, true, false, false, false, false, false, false, false] rfl rfl (by kernel_rfl) (fun _ _ _ h => h) (Or.inl ⟨by rfl, ?_⟩) ?_ ?_
           rotate_left
           ·intro w'
            go_simp
            with_reducible rfl
           rotate_left
           ·simp only [Act.put, List.setIfInBounds_toArray, List.set_cons_zero, List.set_cons_succ, i64_w, i32_w]
            rfl
           refine take_ (i := 1) (N := some 135) (v := ?_) (a' := ?_) #[true, true, true, false, true, true, true, false, false, false, false, false, false, false] rfl rfl (by kernel_rfl) (fun _ _ _ h => h) (Or.inl ⟨by rfl, ?_⟩) hHeld ?_ ?_
           rotate_left
           ·rintro w' ⟨s1, s2, s3, s4⟩
            go_simp
            with_reducible rfl
           rotate_left
           ·simp only [Act.put, List.setIfInBounds_toArray, List.set_cons_zero, List.set_cons_succ, i64_w, i32_w]
            rfl
           refine take_ (i := 3) (N := some 137) (v := ?_) (a' := ?_) #[true, true, true, true, true, true, true, false, false, false, false, false, false, false] rfl rfl (by kernel_rfl) (fun _ _ _ h => h) (Or.inl ⟨by rfl, ?_⟩) hHeld ?_ ?_
           rotate_left
           ·rintro w' ⟨s1, s2, s3, s4⟩
            go_simp
            with_reducible rfl
           rotate_left
           ·simp only [Act.put, List.setIfInBounds_toArray, List.set_cons_zero, List.set_cons_succ, i64_w, i32_w]
            rfl
           refine take_ (i := 7) (N := some 141) (v := ?_) (a' := ?_) #[true, true, true, true, true, true, true, true, false, false, false, false, false, false] rfl rfl (by kernel_rfl) (fun _ _ _ h => h) (Or.inl ⟨by rfl, ?_⟩) hHeld ?_ ?_
           rotate_left
           ·rintro w' ⟨s1, s2, s3, s4⟩
            go_simp
            with_reducible rfl
           rotate_left
           ·simp only [Act.put, List.setIfInBounds_toArray, List.set_cons_zero, List.set_cons_succ, i64_w, i32_w]
            rfl
           refine pure_ (i := 8) (N := some 142) (v := ?_) (a' := ?_) #[true, true, true, true, true, true, true, true, true, false, false, false, false, false] rfl rfl (by kernel_rfl) (fun _ _ _ h => h) (Or.inl ⟨by rfl, ?_⟩) ?_ ?_
           rotate_left
           ·intro w'
            go_simp
            with_reducible rfl
           rotate_left
           ·simp only [Act.put, List.setIfInBounds_toArray, List.set_cons_zero, List.set_cons_succ, i64_w, i32_w]
            rfl
           refine take_ (i := 9) (N := some 143) (v := ?_) (a' := ?_) #[true, true, true, true, true, true, true, true, true, true, false, false, false, false] rfl rfl (by kernel_rfl) (fun _ _ _ h => h) (Or.inl ⟨by rfl, ?_⟩) hHeld ?_ ?_
           rotate_left
           ·rintro w' ⟨s1, s2, s3, s4⟩
            go_simp
            with_reducible rfl
           rotate_left
           ·simp only [Act.put, List.setIfInBounds_toArray, List.set_cons_zero, List.set_cons_succ, i64_w, i32_w]
            rfl
           refine one_ (i := 10) (N := some 144) #[true, true, true, true, true, true, true, true, true, true, true, false, false, false] rfl rfl (by kernel_rfl) (by decide) (fun K hK => ?_)
           refine value_ (w1 := wz.drew.alloc (.cells #[.bool bx] 4)) (v := .slice (some ⟨wz.drew.heap.size, 0, none⟩) 1 1) (by rfl) rfl (by first | (go_simp; done) | (go_simp; rfl)) ?_
           have hQ5 := hQd.step (below_alloc (Below.refl _ _) (.cells #[.bool bx] 4))
           refine hK.out _ _ (hSS _ _ _ hQ5) (fun hHeld => ?_)
           clear hK K
           refine norm_ (a' := ?_) ?_ ?_
           rotate_left
           ·show Act.put _ (some 144) _ = _
            simp only [Act.put, List.setIfInBounds_toArray, List.set_cons_zero, List.set_cons_succ, i64_w, i32_w]
            rfl
           refine one_ (i := 11) (N := some 145) #[true, true, true, true, true, true, true, true, true, true, true, true, false, false] rfl rfl (by kernel_rfl) (by decide) (fun K hK => ?_)
           refine Kd.R_append_step Kd.bool (w0 := w3) w3.heap.size (by rfl) (.tmp 135) (.tmp 144) 22 4 (.bool false) 1 rfl Tryd.underlying22 GwI.info_bool rfl (by decide) (by decide) vA ((li.take i).map (acF accs)) bx [.bool bx] (fun _ => True) (fun _ => False) rfl rfl rfl (fun _ h => h.elim) (fun _ _ => trivial) hQd.acc hQd.bel (Below.size hQd.bel) (by simp <;> omega) ?_
           intro v6 w6 hR6 hb6 hg6 hat6
           obtain ⟨A6, c6, hv6⟩ := Kd.R_slice hR6
           subst hv6
           obtain ⟨b26, hQ6⟩ := hQd.mark hg6 hR6 hb6
           refine hK.out _ _ ⟨(blk_cell b26 2).trans rfl, hB _ hb6 (R_off hQd.lst (Keep.grown hg6) (Off.row hQd.acc (by decide)))⟩ (fun hHeld => ?_)
           clear hK K
           refine norm_ (a' := ?_) ?_ ?_
           rotate_left
           ·show Act.put _ (some 145) _ = _
            simp only [Act.put, List.setIfInBounds_toArray, List.set_cons_zero, List.set_cons_succ, i64_w, i32_w]
            rfl
           refine pure_ (i := 12) (N := some 146) (v := ?_) (a' := ?_) #[true, true, true, true, true, true, true, true, true, true, true, true, true, false] rfl rfl (by kernel_rfl) (fun _ _ _ h => h) (Or.inl ⟨by rfl, ?_⟩) ?_ ?_
           rotate_left
           ·intro w'
            go_simp
            with_reducible rfl
           rotate_left
           ·simp only [Act.put, List.setIfInBounds_toArray, List.set_cons_zero, List.set_cons_succ, i64_w, i32_w]
            rfl
           refine last_ (i := 13) (N := none) #[true, true, true, true, true, true, true, true, true, true, true, true, true, true] rfl rfl (by kernel_rfl) (by decide) (fun K hK => ?_)
           have hf6 : w6.frozen? ⟨gV, 2, none⟩ = false := blk_frozen b26 2
           have hc6 : w6.cell? ⟨gV, 2, none⟩ = some vA := (blk_cell b26 2).trans rfl
           refine skip_ (w1 := w6.setCell ⟨gV, 2, none⟩ (.slice A6 (((li.take i).map (acF accs)) ++ [bx]).length c6)) (by rfl) rfl (by first | (go_simp; done) | (go_simp; rfl)) ?_
           refine hK.out _ _ ?_
           clear hK K
           refine done_ (by kernel_rfl) ?_
           clear hSS hB hQd hQ5 hf6 hc6 b26 hR6 hb6 hg6 hHeld h4
           generalize w6.setCell ⟨gV, 2, none⟩ (.slice A6 (((li.take i).map (acF accs)) ++ [bx]).length c6) = w7 at *
           have c73 : w7.cell? ⟨gV, 3, none⟩ = some vN := (blk_cell hQ6.bV 3).trans rfl
           have hrow : (Kd.int .i64).R 2 w7 w3.heap.size (fun j => some j = (Value.slice Ar r.length cr).ownBlock) (.slice Ar r.length cr) (ints r) := Kd.R_of_own (Kd.own_of_R hQ6.row) (fun j hj => hj.symm)
           have hgT7 := Kd.R_lt hQ6.tab gT rfl
           have hLt7 := Kd.R_lt hQ6.lst
           have hrl2 : rw_.length ≤ 1000000 := by have := hrl.out; omega
           go_wp2_with ((with_reducible refine gate_builtin (b := .append) (xs := #[.tmp 148, .tmp 150]) rfl ?_); go_loud (at_builtin; refine S_append' (Kd.slice 2 (Kd.int .i64)) (w0 := w3) w3.heap.size rfl (.tmp 148) (.tmp 150) 23 86 (.slice none 0 0) 24 rfl Tryd.underlying23 info_longs rfl (by decide) (by decide) vN (rw_.map ints) (ints r) [.slice Ar r.length cr] (fun j => j ≠ gT ∧ some j ≠ (Value.slice (some a7) lj.length c').ownBlock) (fun j => some j = (Value.slice Ar r.length cr).ownBlock ∧ some j ≠ vN.ownBlock) _ (by simp) rfl rfl (Kd.M_row (R_typed hrow (Kd.S_R hQ6.out) (by decide))) (fun j hj => ⟨⟨fun e => hQ6.tr (by rw [← hj.1, e]), fun e => hQ6.lr j e.symm hj.1⟩, hj.2⟩) (fun j hj => ⟨by omega, fun e => by have := hLt7 j e.symm; omega⟩) (Kd.S_mono hQ6.out (fun j hj => ⟨⟨hj.1, hj.2.1⟩, fun h => hj.2.2 h.1⟩)) hQ6.bel (Below.size hQ6.bel) (by rw [List.length_map]; omega) ?_; intro v8 w8 hR8 hb8 hg8 hat8; obtain ⟨A8, c8, hv8⟩ := Kd.S_slice hR8; have ev8 : (rw_.map ints ++ [ints r]).length = rw_.length + 1 := (by simp); rw [ev8] at hv8; subst hv8; obtain ⟨b28, h8⟩ := hQ6.nxt hg8 hR8 hb8; have c83 : w8.cell? ⟨gV, 3, none⟩ = some vN := (blk_cell b28 3).trans rfl; have f83 : w8.frozen? ⟨gV, 3, none⟩ = false := blk_frozen b28 3))
           go_roundg kf
           case measure => omega
           case rel =>
            obtain ⟨hm1, hm2⟩ := row_prefix (key := kyF g) (nxt := nxF rows) (s := k) (List.range c) li
            have hil3 : i + 1 ≤ lj.length := by omega
            have e1 : (lj.take (i + 1)).map (acF accs) = (li.take i).map (acF accs) ++ [bx] := by
             rw [HR2.out.1, hm2, List.take_append_of_le_length (by omega), List.take_succ_eq_append_getElem hlt, List.map_append, ← hbx.out, HK.out]
             rfl
            exact ⟨i + 1, lj, rw_ ++ [r], tab2, some a7, c', .slice A6 (((li.take i).map (acF accs)) ++ [bx]).length c6, .slice A8 (rw_.length + 1) c8, rfl, (by go_num), ⟨by rw [HR2.out.1, HR2.out.2]; exact HH.out⟩, ⟨by have := hrl.out; simp; omega⟩, hil3, hQj, hTj, ⟨by rw [e1]; exact h8⟩⟩
        ·have hii : i = li.length := by omega
         subst hii
         cases gk with
         | zero => exact absurd H.out (by simp [bfs])
         | succ kf =>
         have H1 := H.out
         unfold bfs at H1
         rw [dif_neg (by omega)] at H1
         simp only [Option.some.injEq, Prod.mk.injEq] at H1
         obtain ⟨rfl, rfl⟩ := H1
         rw [List.take_of_length_le (Nat.le_refl _)] at h
         have hlt1 : ((li.length : Int) < (li.length : Int)) = False := eq_false (by omega)
         obtain ⟨AA2, cA2, rfl⟩ := Kd.R_slice h.acc
         obtain ⟨AN2, cN2, rfl⟩ := Kd.S_slice h.out
         rw [List.length_map] at h
         have hbV := h.bV
         rw [List.length_map, hrl.out] at hbV
         have d0 : wo.cell? ⟨gV, 0, none⟩ = some (.int .i64 tapes) := (blk_cell hbV 0).trans rfl
         have d1 : wo.cell? ⟨gV, 1, none⟩ = some (.int .i64 0) := (blk_cell hbV 1).trans rfl
         have d2 : wo.cell? ⟨gV, 2, none⟩ = some (.slice AA2 li.length cA2) := (blk_cell hbV 2).trans rfl
         have d3 : wo.cell? ⟨gV, 3, none⟩ = some (.slice AN2 li.length cN2) := (blk_cell hbV 3).trans rfl
         have b := blk_below fR3 h.bel
         have e0 : wo.cell? ⟨w.heap.size, 0, none⟩ = some (.int .i64 0) := (blk_cell b 0).trans rfl
         have e1 : wo.cell? ⟨w.heap.size, 1, none⟩ = some (.int .i64 0) := (blk_cell b 1).trans rfl
         have e2 : wo.cell? ⟨w.heap.size, 2, none⟩ = some (.slice none 0 0) := (blk_cell b 2).trans rfl
         have e3 : wo.cell? ⟨w.heap.size, 3, none⟩ = some (.slice none 0 0) := (blk_cell b 3).trans rfl
         have f0 : wo.frozen? ⟨w.heap.size, 0, none⟩ = false := blk_frozen b 0
         have f1 : wo.frozen? ⟨w.heap.size, 1, none⟩ = false := blk_frozen b 1
         have f2 : wo.frozen? ⟨w.heap.size, 2, none⟩ = false := blk_frozen b 2
         have f3 : wo.frozen? ⟨w.heap.size, 3, none⟩ = false := blk_frozen b 3
         have hbel := below_step bW h.bel
         go_wp2_with fail
         have hA := Kd.R_lower h.acc (Below.size bW)
         have hbs2 : li.map (acF accs) = bs := hbss.out
         rw [hbs2] at hA
         have hN := Kd.S_lower h.out (Below.size bW)
         clear d0 d1 d2 d3 e0 e1 e2 e3 f0 f1 f2 f3
         rw [List.length_map, hrl.out] at hN
         have b1 := blk_put b 0 (.int .i64 tapes) rfl
         have b2 := blk_put b1 1 (.int .i64 0) rfl
         have b3 := blk_put b2 2 (.slice AA2 li.length cA2) rfl
         have b4 := blk_put b3 3 (.slice AN2 li.length cN2) rfl
         refine bodyPost_ret (results_cell_row rfl _ _ w.heap.size 29 #[.int .i64 tapes, .int .i64 0, .slice AA2 li.length cA2, .slice AN2 li.length cN2] (0, 0) _ rfl b4 Tryd.underlying29 rfl (by kernel_rfl)) rfl ⟨_, _, rfl, ?_, ?_, ?_⟩
         ·exact Kd.R_set (Kd.R_set (Kd.R_set (Kd.R_set hA b (by decide) 0 _) b1 (by decide) 1 _) b2 (by decide) 2 _) b3 (by decide) 3 _
         ·exact Kd.S_mono (Kd.S_set (Kd.S_set (Kd.S_set (Kd.S_set hN b (by decide) 0 _) b1 (by decide) 1 _) b2 (by decide) 2 _) b3 (by decide) 3 _) (fun _ _ => trivial)
         ·exact (((hbel.setCell (by simp) _).setCell (by simp) _).setCell (by simp) _).setCell (by simp) _
    ·have hd1 : ((L : Int) == (n' : Int)) = false := by simp; omega
     go_wp2_with (go_at_call 109; go_loud (with_reducible refine (hF2.out _ gX A1 c1 A2 c2 A4 c4 (blk_below fX hb) (Kd.C_below cA hb) hc1 (Kd.C_below cN hb) hc2 (by rw [ints_length] at hCg; exact hCg) hq2 hgl.out).mono ?_; rintro e w3 ⟨v0, rfl, r3, hb3⟩; obtain ⟨A5, c5, rfl⟩ := Kd.R_slice r3; rw [ints_length] at r3; have r5 := Kd.R_lower r3 (Below.size hb); have hb5 := below_step hb hb3))
     go_roundg kf
     case measure => omega
     case rel => exact ⟨out, L, A5, c5, by rw [ints_length], rfl, ⟨by have := hst2.out; rw [if_neg hLn] at this; exact this⟩, hnu2, ⟨hb5⟩, ⟨r5⟩⟩
end Go.Proofs.YtbamnonamdpooaaDoor.Tw
namespace Go.Proofs.YtbamnonamdpooaaDoor.Sb
set_option linter.unusedVariables false
set_option linter.unusedSimpArgs false
open Go.RowKit Go.Proofs.YtbamnonamdpooaaDoorW.PrintWords Go.Proofs.YtbamnonamdpooaaDoorW.PrintLast Go.Proofs.YtbamnonamdpooaaDoorW.PrintMore Go.Proofs.YtbamnonamdpooaaDoor.Mp Go.Proofs.YtbamnonamdpooaaDoor.Kp Go.Proofs.YtbamnonamdpooaaDoor.Mg Go.Proofs.YtbamnonamdpooaaDoor.Tdy Go.Proofs.YtbamnonamdpooaaDoor.Rg Go.Proofs.YtbamnonamdpooaaDoor.Tw
abbrev Pair := Kd.arr 2 (Kd.int .i64) (by decide)
abbrev Text2 := Kd.arr 2 Kd.string (by decide)
def encI (l : List Int) : Array Value := (encs (Value.int .i64) l).toArray
def encT (l : List ByteArray) : Array Value := (encs Value.string l).toArray
def ab (b : Nat) : ByteArray := if b = 0 then ⟨#[97]⟩ else ⟨#[98]⟩
abbrev St := List Nat × List Int × List ByteArray
/-- One pair of letters (a, b). -/
def pairF (lv : Nat → Bool) (r : List Nat) (a b : Nat) (s : St) : Option St :=
 if a = 2 ∧ b = 2 then some s
 else if lv (r.getD (a + 3 * b) 0) = false then some s
 else if a = 2 ∨ b = 2 ∨ 0 ≤ s.2.1.getD a (-1) then none
 else match find id (r.getD (a + 3 * b) 0) s.1 with
  | some j => some (s.1, s.2.1.set a (j : Int), s.2.2.set a (ab b))
  | none => some (s.1 ++ [r.getD (a + 3 * b) 0], s.2.1.set a (s.1.length : Int), s.2.2.set a (ab b))
def runB (lv : Nat → Bool) (r : List Nat) (a : Nat) : List Nat → St → Option St
 | [], s => some s
 | b :: bs, s => (pairF lv r a b s).bind (runB lv r a bs)
def runA (lv : Nat → Bool) (r : List Nat) : List Nat → St → Option St
 | [], s => some s
 | a :: l, s => (runB lv r a [0, 1, 2] s).bind (runA lv r l)
def rowT (lv : Nat → Bool) (r : List Nat) (li : List Nat) : Option St := runA lv r [0, 1, 2] (li, [-1, -1], [⟨#[]⟩, ⟨#[]⟩])
abbrev Sc := List Nat × List (List Int) × List (List ByteArray)
/-- 'none': more rounds are wanted; 'some none': there is no scribe. -/
def scr (lv : Nat → Bool) (rows : List (List Nat)) : Nat → Nat → List Nat → List (List Int) → List (List ByteArray) → Option (Option Sc)
 | 0, _, _, _, _ => none
 | f + 1, i, li, nx, ot =>
  if h : i < li.length then
   match rowT lv (rows.getD li[i] []) li with
   | none => some none
   | some s => scr lv rows f (i + 1) s.1 (nx ++ [s.2.1]) (ot ++ [s.2.2])
  else some (some (li, nx, ot))
/-- What stands in memory: the scribe, the map, the list, the machine's parts of it; xN and xO: the arrays of the round. All of it is newer than w0. -/
structure Mem (w0 : World) (gX mb : Nat) (xN xO : Option Nat) (em : List Int) (vL : Value) (li : List Nat) (vA : Value) (bs : List Bool) (vN : Value) (nx : List (List Int)) (vO : Value) (ot : List (List ByteArray)) (W : World) : Prop where
 bX : W.heap[gX]? = some (.cells #[vA, vN, vO] 40 (0, 0))
 map : FMap Tryd.prog 3 W mb (GwI.ents em)
 lst : Kd.R (Kd.int .i64) 3 W w0.heap.size (fun _ => True) vL (ints li)
 acc : Kd.R Kd.bool 4 W w0.heap.size (fun _ => True) vA bs
 nxt : Kd.R Pair 89 W w0.heap.size (fun k => some k ≠ xN) vN nx
 out : Kd.R Text2 90 W w0.heap.size (fun k => some k ≠ xO) vO ot
 hX : w0.heap.size ≤ gX
 hm : w0.heap.size ≤ mb
 bel : Below w0.heap.size w0 W
section
variable {w0 : World} {gX mb : Nat} {xN xO : Option Nat} {em : List Int} {vL : Value} {li : List Nat} {vA : Value} {bs : List Bool} {vN : Value} {nx : List (List Int)} {vO : Value} {ot : List (List ByteArray)} {W W' : World}
theorem Mem.step (h : Mem w0 gX mb xN xO em vL li vA bs vN nx vO ot W) (hb : Below W.heap.size W W') : Mem w0 gX mb xN xO em vL li vA bs vN nx vO ot W' :=
 ⟨blk_below h.bX hb, map_keep h.map (Keep.below hb) (by simp), Kd.R_below h.lst hb, Kd.R_below h.acc hb, Kd.R_below h.nxt hb, Kd.R_below h.out hb, h.hX, h.hm, below_step h.bel hb⟩
theorem Mem.put (h : Mem w0 gX mb xN xO em vL li vA bs vN nx vO ot W) {em' : List Int} (hg : W.grownBy W' (some mb)) (hF : FMap Tryd.prog 3 W' mb (GwI.ents em')) : Mem w0 gX mb xN xO em' vL li vA bs vN nx vO ot W' := by
 have hk := Keep.grown hg
 have o : ∀ E : List Nat, Off W (some mb) E := fun E => Off.map h.map E
 exact ⟨hk.obj h.bX (off_ne h.bX (o _)), hF, R_off h.lst hk (o _), R_off h.acc hk (o _), R_off h.nxt hk (o _), R_off h.out hk (o _), h.hX, h.hm, h.bel.grown hg (Below.size h.bel) (fun k hk => by cases hk; exact h.hm)⟩
theorem Mem.push (h : Mem w0 gX mb xN xO em vL li vA bs vN nx vO ot W) {v1 : Value} {li' : List Nat} (hg : W.grownBy W' vL.ownBlock) (hR : Kd.R (Kd.int .i64) 3 W' w0.heap.size (fun _ => True) v1 (ints li')) (hb : Below w0.heap.size w0 W') : Mem w0 gX mb xN xO em v1 li' vA bs vN nx vO ot W' := by
 have hk := Keep.grown hg
 have o : ∀ E : List Nat, (∀ q ∈ E, q ≠ 3) → Off W vL.ownBlock E := fun E hE => Off.row h.lst hE
 exact ⟨hk.obj h.bX (off_ne h.bX (o _ (by decide))), map_keep h.map hk (map_row_ne h.map h.lst), hR, R_off h.acc hk (o _ (by decide)), R_off h.nxt hk (o _ (by decide)), R_off h.out hk (o _ (by decide)), h.hX, h.hm, hb⟩
/-- The arrays of the round are new. -/
theorem Mem.begin (h : Mem w0 gX mb none none em vL li vA bs vN nx vO ot W) {gN gO : Nat} (hN : W.heap.size ≤ gN) (hO : W.heap.size ≤ gO) : Mem w0 gX mb (some gN) (some gO) em vL li vA bs vN nx vO ot W :=
 ⟨h.bX, h.map, h.lst, h.acc, Kd.R_mono (Kd.R_bound h.nxt) (fun k hk e => by have h1 := hk.2.2.1; have h2 := Option.some.inj e; omega), Kd.R_mono (Kd.R_bound h.out) (fun k hk e => by have h1 := hk.2.2.1; have h2 := Option.some.inj e; omega), h.hX, h.hm, h.bel⟩
theorem Mem.setN {gN : Nat} {c : Array Value} (h : Mem w0 gX mb (some gN) xO em vL li vA bs vN nx vO ot W) (hb : W.heap[gN]? = some (.cells c 89 (0, 0))) (hg : w0.heap.size ≤ gN) (i : Nat) (v : Value) : Mem w0 gX mb (some gN) xO em vL li vA bs vN nx vO ot (W.setCell ⟨gN, i, none⟩ v) := by
 have hk := Keep.set W ⟨gN, i, none⟩ v
 have o : ∀ E : List Nat, (∀ q ∈ E, q ≠ 89) → Off W (some gN) E := fun E hE => Off.cells hb hE
 have hn := R_apart (ok := fun k => some k ≠ some gN) (Kd.R_mono h.nxt (fun k hk => ⟨hk, hk⟩)) hk
 exact ⟨hk.obj h.bX (off_ne h.bX (o _ (by decide))), map_keep h.map hk (fun e => map_ne h.map hb (Option.some.inj e)), R_off h.lst hk (o _ (by decide)), R_off h.acc hk (o _ (by decide)), Kd.R_mono hn (fun k hk => hk.1), R_off h.out hk (o _ (by decide)), h.hX, h.hm, h.bel.setCell hg _⟩
theorem Mem.setO {gO : Nat} {c : Array Value} (h : Mem w0 gX mb xN (some gO) em vL li vA bs vN nx vO ot W) (hb : W.heap[gO]? = some (.cells c 90 (0, 0))) (hg : w0.heap.size ≤ gO) (i : Nat) (v : Value) : Mem w0 gX mb xN (some gO) em vL li vA bs vN nx vO ot (W.setCell ⟨gO, i, none⟩ v) := by
 have hk := Keep.set W ⟨gO, i, none⟩ v
 have o : ∀ E : List Nat, (∀ q ∈ E, q ≠ 90) → Off W (some gO) E := fun E hE => Off.cells hb hE
 have hn := R_apart (ok := fun k => some k ≠ some gO) (Kd.R_mono h.out (fun k hk => ⟨hk, hk⟩)) hk
 exact ⟨hk.obj h.bX (off_ne h.bX (o _ (by decide))), map_keep h.map hk (fun e => map_ne h.map hb (Option.some.inj e)), R_off h.lst hk (o _ (by decide)), R_off h.acc hk (o _ (by decide)), R_off h.nxt hk (o _ (by decide)), Kd.R_mono hn (fun k hk => hk.1), h.hX, h.hm, h.bel.setCell hg _⟩
/-- A mark is put behind the marks. -/
theorem Mem.mark {v1 : Value} {bs' : List Bool} (h : Mem w0 gX mb xN xO em vL li vA bs vN nx vO ot W) (hg : W.grownBy W' vA.ownBlock) (hR : Kd.R Kd.bool 4 W' w0.heap.size (fun _ => True) v1 bs') (hb : Below w0.heap.size w0 W') :
  W'.heap[gX]? = some (.cells #[vA, vN, vO] 40 (0, 0)) ∧ Mem w0 gX mb xN xO em vL li v1 bs' vN nx vO ot (W'.setCell ⟨gX, 0, none⟩ v1) := by
 have hk := Keep.grown hg
 have o : ∀ E : List Nat, (∀ q ∈ E, q ≠ 4) → Off W vA.ownBlock E := fun E hE => Off.row h.acc hE
 have b := hk.obj h.bX (off_ne h.bX (o _ (by decide)))
 have hs := Keep.set W' ⟨gX, 0, none⟩ v1
 have p : ∀ E : List Nat, (∀ q ∈ E, q ≠ 40) → Off W' (some gX) E := fun E hE => Off.cells b hE
 have m := map_keep h.map hk (map_row_ne h.map h.acc)
 exact ⟨b, blk_put b 0 v1 rfl, map_keep m hs (fun e => map_ne m b (Option.some.inj e)), R_off (R_off h.lst hk (o _ (by decide))) hs (p _ (by decide)), R_off hR hs (p _ (by decide)), R_off (R_off h.nxt hk (o _ (by decide))) hs (p _ (by decide)), R_off (R_off h.out hk (o _ (by decide))) hs (p _ (by decide)), h.hX, h.hm, hb.setCell h.hX _⟩
theorem Mem.addN {v1 : Value} {nx' : List (List Int)} (h : Mem w0 gX mb xN xO em vL li vA bs vN nx vO ot W) (hg : W.grownBy W' vN.ownBlock) (hR : Kd.R Pair 89 W' w0.heap.size (fun k => some k ≠ xN) v1 nx') (hb : Below w0.heap.size w0 W') :
  W'.heap[gX]? = some (.cells #[vA, vN, vO] 40 (0, 0)) ∧ Mem w0 gX mb xN xO em vL li vA bs v1 nx' vO ot (W'.setCell ⟨gX, 1, none⟩ v1) := by
 have hk := Keep.grown hg
 have o : ∀ E : List Nat, (∀ q ∈ E, q ≠ 89) → Off W vN.ownBlock E := fun E hE => Off.row h.nxt hE
 have b := hk.obj h.bX (off_ne h.bX (o _ (by decide)))
 have hs := Keep.set W' ⟨gX, 1, none⟩ v1
 have p : ∀ E : List Nat, (∀ q ∈ E, q ≠ 40) → Off W' (some gX) E := fun E hE => Off.cells b hE
 have m := map_keep h.map hk (map_row_ne h.map h.nxt)
 exact ⟨b, blk_put b 1 v1 rfl, map_keep m hs (fun e => map_ne m b (Option.some.inj e)), R_off (R_off h.lst hk (o _ (by decide))) hs (p _ (by decide)), R_off (R_off h.acc hk (o _ (by decide))) hs (p _ (by decide)), R_off hR hs (p _ (by decide)), R_off (R_off h.out hk (o _ (by decide))) hs (p _ (by decide)), h.hX, h.hm, hb.setCell h.hX _⟩
theorem Mem.addO {v1 : Value} {ot' : List (List ByteArray)} (h : Mem w0 gX mb xN xO em vL li vA bs vN nx vO ot W) (hg : W.grownBy W' vO.ownBlock) (hR : Kd.R Text2 90 W' w0.heap.size (fun k => some k ≠ xO) v1 ot') (hb : Below w0.heap.size w0 W') :
  W'.heap[gX]? = some (.cells #[vA, vN, vO] 40 (0, 0)) ∧ Mem w0 gX mb xN xO em vL li vA bs vN nx v1 ot' (W'.setCell ⟨gX, 2, none⟩ v1) := by
 have hk := Keep.grown hg
 have o : ∀ E : List Nat, (∀ q ∈ E, q ≠ 90) → Off W vO.ownBlock E := fun E hE => Off.row h.out hE
 have b := hk.obj h.bX (off_ne h.bX (o _ (by decide)))
 have hs := Keep.set W' ⟨gX, 2, none⟩ v1
 have p : ∀ E : List Nat, (∀ q ∈ E, q ≠ 40) → Off W' (some gX) E := fun E hE => Off.cells b hE
 have m := map_keep h.map hk (map_row_ne h.map h.out)
 exact ⟨b, blk_put b 2 v1 rfl, map_keep m hs (fun e => map_ne m b (Option.some.inj e)), R_off (R_off h.lst hk (o _ (by decide))) hs (p _ (by decide)), R_off (R_off h.acc hk (o _ (by decide))) hs (p _ (by decide)), R_off (R_off h.nxt hk (o _ (by decide))) hs (p _ (by decide)), R_off hR hs (p _ (by decide)), h.hX, h.hm, hb.setCell h.hX _⟩
theorem Mem.done (h : Mem w0 gX mb xN xO em vL li vA bs vN nx vO ot W) : Mem w0 gX mb none none em vL li vA bs vN nx vO ot W :=
 ⟨h.bX, h.map, h.lst, h.acc, Kd.R_mono h.nxt (fun _ _ => by simp), Kd.R_mono h.out (fun _ _ => by simp), h.hX, h.hm, h.bel⟩
end
theorem find_ints (t : Nat) : ∀ l : List Nat, find id (t : Int) (ints l) = find id t l
 | [] => rfl
 | a :: l => by
  have ih := find_ints t l
  show find id (t : Int) ((a : Int) :: ints l) = _
  unfold find
  rw [ih]
  simp only [id]
  by_cases h : a = t
  ·rw [if_pos h, if_pos (by omega)]
  ·rw [if_neg h, if_neg (by omega)]
theorem runB_step {lv : Nat → Bool} {r : List Nat} {a b : Nat} (hb : b < 3) (s : St) : runB lv r a ([0, 1, 2].drop b) s = (pairF lv r a b s).bind (runB lv r a ([0, 1, 2].drop (b + 1))) := by
 match b, hb with
 | 0, _ => rfl
 | 1, _ => rfl
 | 2, _ => rfl
theorem runA_step {lv : Nat → Bool} {r : List Nat} {a : Nat} (ha : a < 3) (s : St) : runA lv r ([0, 1, 2].drop a) s = (runB lv r a ([0, 1, 2].drop 0) s).bind (runA lv r ([0, 1, 2].drop (a + 1))) := by
 match a, ha with
 | 0, _ => rfl
 | 1, _ => rfl
 | 2, _ => rfl
section
variable {lv : Nat → Bool} {r : List Nat} {a b : Nat} {s : St}
theorem pairF_skip (h : a = 2 ∧ b = 2) : pairF lv r a b s = some s := by unfold pairF; rw [if_pos h]
theorem pairF_dead (h : ¬ (a = 2 ∧ b = 2)) (hl : lv (r.getD (a + 3 * b) 0) = false) : pairF lv r a b s = some s := by unfold pairF; rw [if_neg h, if_pos hl]
theorem pairF_bad (h : ¬ (a = 2 ∧ b = 2)) (hl : lv (r.getD (a + 3 * b) 0) = true) (hb : a = 2 ∨ b = 2 ∨ 0 ≤ s.2.1.getD a (-1)) : pairF lv r a b s = none := by unfold pairF; rw [if_neg h, if_neg (by rw [hl]; simp), if_pos hb]
theorem pairF_hit (ha : a < 2) (hb : b < 2) (hl : lv (r.getD (a + 3 * b) 0) = true) (hN : s.2.1.getD a (-1) < 0) {j : Nat} (hf : find id (r.getD (a + 3 * b) 0) s.1 = some j) : pairF lv r a b s = some (s.1, s.2.1.set a (j : Int), s.2.2.set a (ab b)) := by
 unfold pairF
 rw [if_neg (by omega), if_neg (by rw [hl]; simp), if_neg (by omega), hf]
theorem pairF_miss (ha : a < 2) (hb : b < 2) (hl : lv (r.getD (a + 3 * b) 0) = true) (hN : s.2.1.getD a (-1) < 0) (hf : find id (r.getD (a + 3 * b) 0) s.1 = none) : pairF lv r a b s = some (s.1 ++ [r.getD (a + 3 * b) 0], s.2.1.set a (s.1.length : Int), s.2.2.set a (ab b)) := by
 unfold pairF
 rw [if_neg (by omega), if_neg (by rw [hl]; simp), if_neg (by omega), hf]
end
theorem two_lit (W : World) (e : Nat) (x y : Int) : (Kd.int .i64).C (W.alloc (.cells #[.int .i64 x, .int .i64 y] e)) (some ⟨W.heap.size, 0, none⟩) 2 [x, y] := by
 refine Kd.C_of_reads (d := 0) ⟨rfl, by decide, fun _ => ⟨_, rfl, fun j hj => ?_⟩⟩
 have hc := blk_cell (blk_new W (.cells #[.int .i64 x, .int .i64 y] e)) j
 have ea : (⟨W.heap.size, 0, none⟩ : Addr).add j = ⟨W.heap.size, j, none⟩ := by
  by_cases h0 : j = 0
  ·subst h0; rfl
  ·simp [Addr.add, h0]
 rw [ea, hc]
 match j, hj with
 | 0, _ => rfl
 | 1, _ => rfl
theorem encI_get {l : List Int} (h : l.length = 2) {a : Nat} (ha : a < 2) : (encI l)[a]? = some (.int .i64 (l.getD a (-1))) := by
 have hl : a < l.length := by omega
 simp [encI, encs, List.getD_eq_getElem?_getD, hl]
theorem encT_get {l : List ByteArray} (h : l.length = 2) {a : Nat} (ha : a < 2) : (encT l)[a]? = some (.string (l.getD a ⟨#[]⟩)) := by
 have hl : a < l.length := by omega
 simp [encT, encs, List.getD_eq_getElem?_getD, hl]
/-- What holds of the list and the arrays while a row is made. -/
structure Inv (n : Nat) (li : List Nat) (s : St) : Prop where
 pre : ∃ m, s.1 = li ++ m
 lt : ∀ q ∈ s.1, q < n
 nd : s.1.Nodup
 lN : s.2.1.length = 2
 lO : s.2.2.length = 2
theorem Inv.le {n : Nat} {li : List Nat} {s : St} (h : Inv n li s) : s.1.length ≤ n := by
 have := Go.Proofs.YtbamnonamdpooaaDoor.Tdy.nodup_le (l := s.1) (m := List.range n) h.nd (fun x hx => List.mem_range.2 (h.lt x hx))
 rwa [List.length_range] at this
theorem Inv.start {n : Nat} {li : List Nat} (h : ∀ q ∈ li, q < n) (hd : li.Nodup) : Inv n li (li, [-1, -1], [⟨#[]⟩, ⟨#[]⟩]) := ⟨⟨[], by simp⟩, h, hd, rfl, rfl⟩
theorem Inv.set {n : Nat} {li : List Nat} {s : St} (h : Inv n li s) (a : Nat) (x : Int) (t : ByteArray) : Inv n li (s.1, s.2.1.set a x, s.2.2.set a t) := ⟨h.pre, h.lt, h.nd, by simp [h.lN], by simp [h.lO]⟩
theorem Inv.more {n : Nat} {li : List Nat} {s : St} (h : Inv n li s) {t : Nat} (ht : t < n) (hf : find id t s.1 = none) (a : Nat) (x : Int) (u : ByteArray) : Inv n li (s.1 ++ [t], s.2.1.set a x, s.2.2.set a u) := by
 obtain ⟨m, hm⟩ := h.pre
 refine ⟨⟨m ++ [t], by simp [hm]⟩, fun q hq => (List.mem_append.1 hq).elim (h.lt q) (fun h2 => by rw [List.mem_singleton.1 h2]; exact ht), ?_, by simp [h.lN], by simp [h.lO]⟩
 refine List.nodup_append.2 ⟨h.nd, by simp, fun x hx y hy e => ?_⟩
 rw [List.mem_singleton] at hy
 subst hy
 exact find_none hf x hx e
theorem Inv.get {n : Nat} {li : List Nat} {s : St} (h : Inv n li s) {i : Nat} (hi : i < li.length) : ∃ h2 : i < s.1.length, s.1[i] = li[i] ∧ s.1.take (i + 1) = li.take i ++ [li[i]] := by
 obtain ⟨m, hm⟩ := h.pre
 have h2 : i < s.1.length := by rw [hm, List.length_append]; omega
 refine ⟨h2, ?_, ?_⟩
 ·simp only [hm]
  rw [List.getElem_append_left hi]
 ·rw [hm, List.take_append_of_le_length (by omega), List.take_succ_eq_append_getElem hi]
/-- What stands in memory while a row is made. -/
structure Now (w0 : World) (gX mb gN gO : Nat) (vL : Value) (s : St) (vA : Value) (bs : List Bool) (vN : Value) (nx : List (List Int)) (vO : Value) (ot : List (List ByteArray)) (W : World) : Prop where
 m : Mem w0 gX mb (some gN) (some gO) (ints s.1) vL s.1 vA bs vN nx vO ot W
 bN : W.heap[gN]? = some (.cells (encI s.2.1) 89 (0, 0))
 bO : W.heap[gO]? = some (.cells (encT s.2.2) 90 (0, 0))
 hN : w0.heap.size ≤ gN
 hO : w0.heap.size ≤ gO
section
variable {w0 : World} {gX mb gN gO : Nat} {vL : Value} {s : St} {vA : Value} {bs : List Bool} {vN : Value} {nx : List (List Int)} {vO : Value} {ot : List (List ByteArray)} {W W' : World}
theorem Now.step (h : Now w0 gX mb gN gO vL s vA bs vN nx vO ot W) (hb : Below W.heap.size W W') : Now w0 gX mb gN gO vL s vA bs vN nx vO ot W' := ⟨h.m.step hb, blk_below h.bN hb, blk_below h.bO hb, h.hN, h.hO⟩
theorem encI_set (l : List Int) (a : Nat) (x : Int) : (encI l).setIfInBounds a (.int .i64 x) = encI (l.set a x) := by simp [encI, encs]
theorem encT_set (l : List ByteArray) (a : Nat) (x : ByteArray) : (encT l).setIfInBounds a (.string x) = encT (l.set a x) := by simp [encT, encs]
theorem Now.set (h : Now w0 gX mb gN gO vL s vA bs vN nx vO ot W) (a : Nat) (x : Int) (t : ByteArray) : Now w0 gX mb gN gO vL (s.1, s.2.1.set a x, s.2.2.set a t) vA bs vN nx vO ot ((W.setCell ⟨gN, a, none⟩ (.int .i64 x)).setCell ⟨gO, a, none⟩ (.string t)) := by
 have k1 := Keep.set W ⟨gN, a, none⟩ (.int .i64 x)
 have b1 := k1.obj h.bO (off_ne h.bO (Off.cells h.bN (by decide)))
 have b2 := blk_put h.bN a (.int .i64 x) (encI_set _ _ _)
 have k2 := Keep.set (W.setCell ⟨gN, a, none⟩ (.int .i64 x)) ⟨gO, a, none⟩ (.string t)
 exact ⟨(h.m.setN h.bN h.hN a _).setO b1 h.hO a _, k2.obj b2 (off_ne b2 (Off.cells b1 (by decide))), blk_put b1 a (.string t) (encT_set _ _ _), h.hN, h.hO⟩
/-- An entry is put into the map, then the list gets one more. -/
theorem Now.push {W1 : World} {t : Nat} (h : Now w0 gX mb gN gO vL s vA bs vN nx vO ot W) (hg : W.grownBy W1 (some mb)) (hF : FMap Tryd.prog 3 W1 mb (GwI.ents (ints (s.1 ++ [t])))) :
  Mem w0 gX mb (some gN) (some gO) (ints (s.1 ++ [t])) vL s.1 vA bs vN nx vO ot W1 ∧ W1.heap[gN]? = some (.cells (encI s.2.1) 89 (0, 0)) ∧ W1.heap[gO]? = some (.cells (encT s.2.2) 90 (0, 0)) := by
 have k := Keep.grown hg
 exact ⟨h.m.put hg hF, k.obj h.bN (off_ne h.bN (Off.map h.m.map _)), k.obj h.bO (off_ne h.bO (Off.map h.m.map _))⟩
theorem Mem.now {v1 : Value} {t : Nat} (h : Mem w0 gX mb (some gN) (some gO) (ints (s.1 ++ [t])) vL s.1 vA bs vN nx vO ot W) (bN : W.heap[gN]? = some (.cells (encI s.2.1) 89 (0, 0))) (bO : W.heap[gO]? = some (.cells (encT s.2.2) 90 (0, 0))) (hN : w0.heap.size ≤ gN) (hO : w0.heap.size ≤ gO)
  (hg : W.grownBy W' vL.ownBlock) (hR : Kd.R (Kd.int .i64) 3 W' w0.heap.size (fun _ => True) v1 (ints (s.1 ++ [t]))) (hb : Below w0.heap.size w0 W') : Now w0 gX mb gN gO v1 (s.1 ++ [t], s.2) vA bs vN nx vO ot W' := by
 have k := Keep.grown hg
 exact ⟨h.push hg hR hb, k.obj bN (off_ne bN (Off.row h.lst (by decide))), k.obj bO (off_ne bO (Off.row h.lst (by decide))), hN, hO⟩
theorem Now.mark {v1 : Value} {bs' : List Bool} (h : Now w0 gX mb gN gO vL s vA bs vN nx vO ot W) (hg : W.grownBy W' vA.ownBlock) (hR : Kd.R Kd.bool 4 W' w0.heap.size (fun _ => True) v1 bs') (hb : Below w0.heap.size w0 W') :
  W'.heap[gX]? = some (.cells #[vA, vN, vO] 40 (0, 0)) ∧ Now w0 gX mb gN gO vL s v1 bs' vN nx vO ot (W'.setCell ⟨gX, 0, none⟩ v1) := by
 obtain ⟨b, m⟩ := h.m.mark hg hR hb
 have k := Keep.grown hg
 have n1 := k.obj h.bN (off_ne h.bN (Off.row h.m.acc (by decide)))
 have o1 := k.obj h.bO (off_ne h.bO (Off.row h.m.acc (by decide)))
 have hs := Keep.set W' ⟨gX, 0, none⟩ v1
 exact ⟨b, m, hs.obj n1 (off_ne n1 (Off.cells b (by decide))), hs.obj o1 (off_ne o1 (Off.cells b (by decide))), h.hN, h.hO⟩
theorem Now.addN {v1 : Value} {nx' : List (List Int)} (h : Now w0 gX mb gN gO vL s vA bs vN nx vO ot W) (hg : W.grownBy W' vN.ownBlock) (hR : Kd.R Pair 89 W' w0.heap.size (fun k => some k ≠ some gN) v1 nx') (hb : Below w0.heap.size w0 W') :
  W'.heap[gX]? = some (.cells #[vA, vN, vO] 40 (0, 0)) ∧ Mem w0 gX mb (some gN) (some gO) (ints s.1) vL s.1 vA bs v1 nx' vO ot (W'.setCell ⟨gX, 1, none⟩ v1) ∧ (W'.setCell ⟨gX, 1, none⟩ v1).heap[gO]? = some (.cells (encT s.2.2) 90 (0, 0)) := by
 obtain ⟨b, m⟩ := h.m.addN hg hR hb
 have k := Keep.grown hg
 have o1 := k.obj h.bO (off_ne h.bO (Off.row h.m.nxt (by decide)))
 have hs := Keep.set W' ⟨gX, 1, none⟩ v1
 exact ⟨b, m, hs.obj o1 (off_ne o1 (Off.cells b (by decide)))⟩
end
theorem info_pair : (Tryd.prog.info? 89).map (fun i => (i.zero, i.size, i.bytes)) = some (some (.agg #[.int .i64 0, .int .i64 0]), 2, 16) := by kernel_rfl
theorem info_text2 : (Tryd.prog.info? 90).map (fun i => (i.zero, i.size, i.bytes)) = some (some (.agg #[.string ⟨#[]⟩, .string ⟨#[]⟩]), 2, 32) := by kernel_rfl
end Go.Proofs.YtbamnonamdpooaaDoor.Sb
namespace Go.Proofs.YtbamnonamdpooaaDoor.Sp
set_option linter.unusedVariables false
set_option linter.unusedSimpArgs false
open Go.RowKit Go.Proofs.YtbamnonamdpooaaDoorW.PrintWords Go.Proofs.YtbamnonamdpooaaDoorW.PrintLast Go.Proofs.YtbamnonamdpooaaDoorW.PrintMore Go.Proofs.YtbamnonamdpooaaDoor.Mp Go.Proofs.YtbamnonamdpooaaDoor.Kp Go.Proofs.YtbamnonamdpooaaDoor.Mg Go.Proofs.YtbamnonamdpooaaDoor.Tdy Go.Proofs.YtbamnonamdpooaaDoor.Rg Go.Proofs.YtbamnonamdpooaaDoor.Tw Go.Proofs.YtbamnonamdpooaaDoor.Sb
/-- What stands in memory: the scribe, the table of numbers, the list; xN and xO: the arrays of the round. All of it is newer than w0. -/
structure MemS (w0 : World) (gX gT nT cT : Nat) (xN xO : Option Nat) (tab : List Int) (vL : Value) (li : List Nat) (vA : Value) (bs : List Bool) (vN : Value) (nx : List (List Int)) (vO : Value) (ot : List (List ByteArray)) (W : World) : Prop where
 bX : W.heap[gX]? = some (.cells #[vA, vN, vO] 40 (0, 0))
 tab : SR W w0.heap.size (.slice (some ⟨gT, 0, none⟩) nT cT) tab
 lst : SR W w0.heap.size vL (ints li)
 acc : Kd.R Kd.bool 4 W w0.heap.size (fun _ => True) vA bs
 nxt : Kd.R Pair 89 W w0.heap.size (fun k => some k ≠ xN) vN nx
 out : Kd.R Text2 90 W w0.heap.size (fun k => some k ≠ xO) vO ot
 hX : w0.heap.size ≤ gX
 tl : some gT ≠ vL.ownBlock
 bel : Below w0.heap.size w0 W
section
variable {w0 : World} {gX gT nT cT : Nat} {xN xO : Option Nat} {tab : List Int} {vL : Value} {li : List Nat} {vA : Value} {bs : List Bool} {vN : Value} {nx : List (List Int)} {vO : Value} {ot : List (List ByteArray)} {W W' : World}
theorem MemS.step (h : MemS w0 gX gT nT cT xN xO tab vL li vA bs vN nx vO ot W) (hb : Below W.heap.size W W') : MemS w0 gX gT nT cT xN xO tab vL li vA bs vN nx vO ot W' :=
 ⟨blk_below h.bX hb, Kd.R_below h.tab hb, Kd.R_below h.lst hb, Kd.R_below h.acc hb, Kd.R_below h.nxt hb, Kd.R_below h.out hb, h.hX, h.tl, below_step h.bel hb⟩
/-- The table is written. -/
theorem MemS.set (h : MemS w0 gX gT nT cT xN xO tab vL li vA bs vN nx vO ot W) (hg : w0.heap.size ≤ gT) (i : Nat) (x : Int) : MemS w0 gX gT nT cT xN xO (tab.set i x) vL li vA bs vN nx vO ot (W.setCell ⟨gT, i, none⟩ (.int .i64 x)) := by
 have hk := Keep.set W ⟨gT, i, none⟩ (.int .i64 x)
 have o : ∀ E : List Nat, (∀ q ∈ E, q ≠ 2) → Off W (some gT) E := fun E hE => Off.row h.tab hE
 exact ⟨hk.obj h.bX (off_ne h.bX (o _ (by decide))), Kd.R_putn h.tab (i : Int) x, h.lst.move hk (fun k e e2 => by cases e2; exact h.tl e.symm), R_off h.acc hk (o _ (by decide)), R_off h.nxt hk (o _ (by decide)), R_off h.out hk (o _ (by decide)), h.hX, h.tl, h.bel.setCell hg _⟩
theorem MemS.push (h : MemS w0 gX gT nT cT xN xO tab vL li vA bs vN nx vO ot W) {v1 : Value} {li' : List Nat} (hgT : gT < W.heap.size) (hg : W.grownBy W' vL.ownBlock) (hat : v1.ownBlock = vL.ownBlock ∨ ∃ b, v1.ownBlock = some b ∧ W.heap.size ≤ b) (hR : SR W' w0.heap.size v1 (ints li')) (hb : Below w0.heap.size w0 W') : MemS w0 gX gT nT cT xN xO tab v1 li' vA bs vN nx vO ot W' := by
 have hk := Keep.grown hg
 have o : ∀ E : List Nat, (∀ q ∈ E, q ≠ 2) → Off W vL.ownBlock E := fun E hE => Off.row h.lst hE
 exact ⟨hk.obj h.bX (off_ne h.bX (o _ (by decide))), h.tab.move hk (fun k e e2 => by cases e; exact h.tl e2), hR, R_off h.acc hk (o _ (by decide)), R_off h.nxt hk (o _ (by decide)), R_off h.out hk (o _ (by decide)), h.hX, ne_after hat hgT h.tl, hb⟩
/-- The arrays of the round are new. -/
theorem MemS.begin (h : MemS w0 gX gT nT cT none none tab vL li vA bs vN nx vO ot W) {gN gO : Nat} (hN : W.heap.size ≤ gN) (hO : W.heap.size ≤ gO) : MemS w0 gX gT nT cT (some gN) (some gO) tab vL li vA bs vN nx vO ot W :=
 ⟨h.bX, h.tab, h.lst, h.acc, Kd.R_mono (Kd.R_bound h.nxt) (fun k hk e => by have h1 := hk.2.2.1; have h2 := Option.some.inj e; omega), Kd.R_mono (Kd.R_bound h.out) (fun k hk e => by have h1 := hk.2.2.1; have h2 := Option.some.inj e; omega), h.hX, h.tl, h.bel⟩
theorem MemS.setN {gN : Nat} {c : Array Value} (h : MemS w0 gX gT nT cT (some gN) xO tab vL li vA bs vN nx vO ot W) (hb : W.heap[gN]? = some (.cells c 89 (0, 0))) (hg : w0.heap.size ≤ gN) (i : Nat) (v : Value) : MemS w0 gX gT nT cT (some gN) xO tab vL li vA bs vN nx vO ot (W.setCell ⟨gN, i, none⟩ v) := by
 have hk := Keep.set W ⟨gN, i, none⟩ v
 have o : ∀ E : List Nat, (∀ q ∈ E, q ≠ 89) → Off W (some gN) E := fun E hE => Off.cells hb hE
 have hn := R_apart (ok := fun k => some k ≠ some gN) (Kd.R_mono h.nxt (fun k hk => ⟨hk, hk⟩)) hk
 exact ⟨hk.obj h.bX (off_ne h.bX (o _ (by decide))), R_off h.tab hk (o _ (by decide)), R_off h.lst hk (o _ (by decide)), R_off h.acc hk (o _ (by decide)), Kd.R_mono hn (fun k hk => hk.1), R_off h.out hk (o _ (by decide)), h.hX, h.tl, h.bel.setCell hg _⟩
theorem MemS.setO {gO : Nat} {c : Array Value} (h : MemS w0 gX gT nT cT xN (some gO) tab vL li vA bs vN nx vO ot W) (hb : W.heap[gO]? = some (.cells c 90 (0, 0))) (hg : w0.heap.size ≤ gO) (i : Nat) (v : Value) : MemS w0 gX gT nT cT xN (some gO) tab vL li vA bs vN nx vO ot (W.setCell ⟨gO, i, none⟩ v) := by
 have hk := Keep.set W ⟨gO, i, none⟩ v
 have o : ∀ E : List Nat, (∀ q ∈ E, q ≠ 90) → Off W (some gO) E := fun E hE => Off.cells hb hE
 have hn := R_apart (ok := fun k => some k ≠ some gO) (Kd.R_mono h.out (fun k hk => ⟨hk, hk⟩)) hk
 exact ⟨hk.obj h.bX (off_ne h.bX (o _ (by decide))), R_off h.tab hk (o _ (by decide)), R_off h.lst hk (o _ (by decide)), R_off h.acc hk (o _ (by decide)), R_off h.nxt hk (o _ (by decide)), Kd.R_mono hn (fun k hk => hk.1), h.hX, h.tl, h.bel.setCell hg _⟩
/-- A mark is put behind the marks. -/
theorem MemS.mark {v1 : Value} {bs' : List Bool} (h : MemS w0 gX gT nT cT xN xO tab vL li vA bs vN nx vO ot W) (hg : W.grownBy W' vA.ownBlock) (hR : Kd.R Kd.bool 4 W' w0.heap.size (fun _ => True) v1 bs') (hb : Below w0.heap.size w0 W') :
  W'.heap[gX]? = some (.cells #[vA, vN, vO] 40 (0, 0)) ∧ MemS w0 gX gT nT cT xN xO tab vL li v1 bs' vN nx vO ot (W'.setCell ⟨gX, 0, none⟩ v1) := by
 have hk := Keep.grown hg
 have o : ∀ E : List Nat, (∀ q ∈ E, q ≠ 4) → Off W vA.ownBlock E := fun E hE => Off.row h.acc hE
 have b := hk.obj h.bX (off_ne h.bX (o _ (by decide)))
 have hs := Keep.set W' ⟨gX, 0, none⟩ v1
 have p : ∀ E : List Nat, (∀ q ∈ E, q ≠ 40) → Off W' (some gX) E := fun E hE => Off.cells b hE
 exact ⟨b, blk_put b 0 v1 rfl, R_off (R_off h.tab hk (o _ (by decide))) hs (p _ (by decide)), R_off (R_off h.lst hk (o _ (by decide))) hs (p _ (by decide)), R_off hR hs (p _ (by decide)), R_off (R_off h.nxt hk (o _ (by decide))) hs (p _ (by decide)), R_off (R_off h.out hk (o _ (by decide))) hs (p _ (by decide)), h.hX, h.tl, hb.setCell h.hX _⟩
theorem MemS.addN {v1 : Value} {nx' : List (List Int)} (h : MemS w0 gX gT nT cT xN xO tab vL li vA bs vN nx vO ot W) (hg : W.grownBy W' vN.ownBlock) (hR : Kd.R Pair 89 W' w0.heap.size (fun k => some k ≠ xN) v1 nx') (hb : Below w0.heap.size w0 W') :
  W'.heap[gX]? = some (.cells #[vA, vN, vO] 40 (0, 0)) ∧ MemS w0 gX gT nT cT xN xO tab vL li vA bs v1 nx' vO ot (W'.setCell ⟨gX, 1, none⟩ v1) := by
 have hk := Keep.grown hg
 have o : ∀ E : List Nat, (∀ q ∈ E, q ≠ 89) → Off W vN.ownBlock E := fun E hE => Off.row h.nxt hE
 have b := hk.obj h.bX (off_ne h.bX (o _ (by decide)))
 have hs := Keep.set W' ⟨gX, 1, none⟩ v1
 have p : ∀ E : List Nat, (∀ q ∈ E, q ≠ 40) → Off W' (some gX) E := fun E hE => Off.cells b hE
 exact ⟨b, blk_put b 1 v1 rfl, R_off (R_off h.tab hk (o _ (by decide))) hs (p _ (by decide)), R_off (R_off h.lst hk (o _ (by decide))) hs (p _ (by decide)), R_off (R_off h.acc hk (o _ (by decide))) hs (p _ (by decide)), R_off hR hs (p _ (by decide)), R_off (R_off h.out hk (o _ (by decide))) hs (p _ (by decide)), h.hX, h.tl, hb.setCell h.hX _⟩
theorem MemS.addO {v1 : Value} {ot' : List (List ByteArray)} (h : MemS w0 gX gT nT cT xN xO tab vL li vA bs vN nx vO ot W) (hg : W.grownBy W' vO.ownBlock) (hR : Kd.R Text2 90 W' w0.heap.size (fun k => some k ≠ xO) v1 ot') (hb : Below w0.heap.size w0 W') :
  W'.heap[gX]? = some (.cells #[vA, vN, vO] 40 (0, 0)) ∧ MemS w0 gX gT nT cT xN xO tab vL li vA bs vN nx v1 ot' (W'.setCell ⟨gX, 2, none⟩ v1) := by
 have hk := Keep.grown hg
 have o : ∀ E : List Nat, (∀ q ∈ E, q ≠ 90) → Off W vO.ownBlock E := fun E hE => Off.row h.out hE
 have b := hk.obj h.bX (off_ne h.bX (o _ (by decide)))
 have hs := Keep.set W' ⟨gX, 2, none⟩ v1
 have p : ∀ E : List Nat, (∀ q ∈ E, q ≠ 40) → Off W' (some gX) E := fun E hE => Off.cells b hE
 exact ⟨b, blk_put b 2 v1 rfl, R_off (R_off h.tab hk (o _ (by decide))) hs (p _ (by decide)), R_off (R_off h.lst hk (o _ (by decide))) hs (p _ (by decide)), R_off (R_off h.acc hk (o _ (by decide))) hs (p _ (by decide)), R_off (R_off h.nxt hk (o _ (by decide))) hs (p _ (by decide)), R_off hR hs (p _ (by decide)), h.hX, h.tl, hb.setCell h.hX _⟩
theorem MemS.done (h : MemS w0 gX gT nT cT xN xO tab vL li vA bs vN nx vO ot W) : MemS w0 gX gT nT cT none none tab vL li vA bs vN nx vO ot W :=
 ⟨h.bX, h.tab, h.lst, h.acc, Kd.R_mono h.nxt (fun _ _ => by simp), Kd.R_mono h.out (fun _ _ => by simp), h.hX, h.tl, h.bel⟩
end
/-- What stands in memory while a row is made. -/
structure NowS (w0 : World) (gX gT nT cT gN gO : Nat) (tab : List Int) (vL : Value) (s : St) (vA : Value) (bs : List Bool) (vN : Value) (nx : List (List Int)) (vO : Value) (ot : List (List ByteArray)) (W : World) : Prop where
 m : MemS w0 gX gT nT cT (some gN) (some gO) tab vL s.1 vA bs vN nx vO ot W
 bN : W.heap[gN]? = some (.cells (Sb.encI s.2.1) 89 (0, 0))
 bO : W.heap[gO]? = some (.cells (Sb.encT s.2.2) 90 (0, 0))
 hN : w0.heap.size ≤ gN
 hO : w0.heap.size ≤ gO
section
variable {w0 : World} {gX gT nT cT gN gO : Nat} {tab : List Int} {vL : Value} {s : St} {vA : Value} {bs : List Bool} {vN : Value} {nx : List (List Int)} {vO : Value} {ot : List (List ByteArray)} {W W' : World}
theorem NowS.step (h : NowS w0 gX gT nT cT gN gO tab vL s vA bs vN nx vO ot W) (hb : Below W.heap.size W W') : NowS w0 gX gT nT cT gN gO tab vL s vA bs vN nx vO ot W' := ⟨h.m.step hb, blk_below h.bN hb, blk_below h.bO hb, h.hN, h.hO⟩
theorem NowS.setN (h : NowS w0 gX gT nT cT gN gO tab vL s vA bs vN nx vO ot W) (a : Nat) (x : Int) : NowS w0 gX gT nT cT gN gO tab vL (s.1, s.2.1.set a x, s.2.2) vA bs vN nx vO ot (W.setCell ⟨gN, a, none⟩ (.int .i64 x)) := by
 have k1 := Keep.set W ⟨gN, a, none⟩ (.int .i64 x)
 exact ⟨h.m.setN h.bN h.hN a _, blk_put h.bN a (.int .i64 x) (Sb.encI_set _ _ _), k1.obj h.bO (off_ne h.bO (Off.cells h.bN (by decide))), h.hN, h.hO⟩
theorem NowS.setO (h : NowS w0 gX gT nT cT gN gO tab vL s vA bs vN nx vO ot W) (a : Nat) (x : ByteArray) : NowS w0 gX gT nT cT gN gO tab vL (s.1, s.2.1, s.2.2.set a x) vA bs vN nx vO ot (W.setCell ⟨gO, a, none⟩ (.string x)) := by
 have k1 := Keep.set W ⟨gO, a, none⟩ (.string x)
 exact ⟨h.m.setO h.bO h.hO a _, k1.obj h.bN (off_ne h.bN (Off.cells h.bO (by decide))), blk_put h.bO a (.string x) (Sb.encT_set _ _ _), h.hN, h.hO⟩
/-- The table is written. -/
theorem NowS.setT (h : NowS w0 gX gT nT cT gN gO tab vL s vA bs vN nx vO ot W) (hg : w0.heap.size ≤ gT) (i : Nat) (x : Int) : NowS w0 gX gT nT cT gN gO (tab.set i x) vL s vA bs vN nx vO ot (W.setCell ⟨gT, i, none⟩ (.int .i64 x)) := by
 have k1 := Keep.set W ⟨gT, i, none⟩ (.int .i64 x)
 exact ⟨h.m.set hg i x, k1.obj h.bN (off_ne h.bN (Off.row h.m.tab (by decide))), k1.obj h.bO (off_ne h.bO (Off.row h.m.tab (by decide))), h.hN, h.hO⟩
/-- The list gets one more. -/
theorem NowS.push (h : NowS w0 gX gT nT cT gN gO tab vL s vA bs vN nx vO ot W) {v1 : Value} {t : Nat} (hgT : gT < W.heap.size) (hg : W.grownBy W' vL.ownBlock) (hat : v1.ownBlock = vL.ownBlock ∨ ∃ b, v1.ownBlock = some b ∧ W.heap.size ≤ b) (hR : SR W' w0.heap.size v1 (ints (s.1 ++ [t]))) (hb : Below w0.heap.size w0 W') : NowS w0 gX gT nT cT gN gO tab v1 (s.1 ++ [t], s.2) vA bs vN nx vO ot W' := by
 have k := Keep.grown hg
 exact ⟨h.m.push hgT hg hat hR hb, k.obj h.bN (off_ne h.bN (Off.row h.m.lst (by decide))), k.obj h.bO (off_ne h.bO (Off.row h.m.lst (by decide))), h.hN, h.hO⟩
theorem NowS.mark {v1 : Value} {bs' : List Bool} (h : NowS w0 gX gT nT cT gN gO tab vL s vA bs vN nx vO ot W) (hg : W.grownBy W' vA.ownBlock) (hR : Kd.R Kd.bool 4 W' w0.heap.size (fun _ => True) v1 bs') (hb : Below w0.heap.size w0 W') :
  W'.heap[gX]? = some (.cells #[vA, vN, vO] 40 (0, 0)) ∧ NowS w0 gX gT nT cT gN gO tab vL s v1 bs' vN nx vO ot (W'.setCell ⟨gX, 0, none⟩ v1) := by
 obtain ⟨b, m⟩ := h.m.mark hg hR hb
 have k := Keep.grown hg
 have n1 := k.obj h.bN (off_ne h.bN (Off.row h.m.acc (by decide)))
 have o1 := k.obj h.bO (off_ne h.bO (Off.row h.m.acc (by decide)))
 have hs := Keep.set W' ⟨gX, 0, none⟩ v1
 exact ⟨b, m, hs.obj n1 (off_ne n1 (Off.cells b (by decide))), hs.obj o1 (off_ne o1 (Off.cells b (by decide))), h.hN, h.hO⟩
theorem NowS.addN {v1 : Value} {nx' : List (List Int)} (h : NowS w0 gX gT nT cT gN gO tab vL s vA bs vN nx vO ot W) (hg : W.grownBy W' vN.ownBlock) (hR : Kd.R Pair 89 W' w0.heap.size (fun k => some k ≠ some gN) v1 nx') (hb : Below w0.heap.size w0 W') :
  W'.heap[gX]? = some (.cells #[vA, vN, vO] 40 (0, 0)) ∧ MemS w0 gX gT nT cT (some gN) (some gO) tab vL s.1 vA bs v1 nx' vO ot (W'.setCell ⟨gX, 1, none⟩ v1) ∧ (W'.setCell ⟨gX, 1, none⟩ v1).heap[gO]? = some (.cells (Sb.encT s.2.2) 90 (0, 0)) := by
 obtain ⟨b, m⟩ := h.m.addN hg hR hb
 have k := Keep.grown hg
 have o1 := k.obj h.bO (off_ne h.bO (Off.row h.m.nxt (by decide)))
 have hs := Keep.set W' ⟨gX, 1, none⟩ v1
 exact ⟨b, m, hs.obj o1 (off_ne o1 (Off.cells b (by decide)))⟩
end
end Go.Proofs.YtbamnonamdpooaaDoor.Sp
namespace Go.Proofs.YtbamnonamdpooaaDoor.Sp
set_option linter.unusedVariables false
set_option linter.unusedSimpArgs false
open Go.RowKit Go.Proofs.YtbamnonamdpooaaDoorW.PrintWords Go.Proofs.YtbamnonamdpooaaDoorW.PrintLast Go.Proofs.YtbamnonamdpooaaDoorW.PrintMore Go.Proofs.YtbamnonamdpooaaDoor.Mp Go.Proofs.YtbamnonamdpooaaDoor.Kp Go.Proofs.YtbamnonamdpooaaDoor.Mg Go.Proofs.YtbamnonamdpooaaDoor.Tdy Go.Proofs.YtbamnonamdpooaaDoor.Rg Go.Proofs.YtbamnonamdpooaaDoor.Tw Go.Proofs.YtbamnonamdpooaaDoor.Sb
/-! ### a row -/
abbrev Ar := List Int × List ByteArray
def colF (lv : Nat → Bool) (r : List Nat) (c : Nat) (s : Ar) : Option Ar :=
 if lv (r.getD c 0) = false then some s
 else if c % 3 = 2 ∨ c / 3 = 2 ∨ 0 ≤ s.1.getD (c % 3) (-1) then none
 else some (s.1.set (c % 3) (r.getD c 0 : Int), s.2.set (c % 3) (ab (c / 3)))
def colsF (lv : Nat → Bool) (r : List Nat) : List Nat → Ar → Option Ar
 | [], s => some s
 | c :: cs, s => (colF lv r c s).bind (colsF lv r cs)
/-- Place x gets its number. -/
def numF (x : Nat) (s : List Nat × List Int) : List Nat × List Int :=
 if s.2.getD x (-1) < 0 then s
 else match find id (s.2.getD x (-1)).toNat s.1 with
  | some j => (s.1, s.2.set x (j : Int))
  | none => (s.1 ++ [(s.2.getD x (-1)).toNat], s.2.set x (s.1.length : Int))
def rowS (lv : Nat → Bool) (r : List Nat) (li : List Nat) : Option St :=
 (colsF lv r [0, 1, 2, 3, 4, 5, 6, 7] ([-1, -1], [⟨#[]⟩, ⟨#[]⟩])).map fun p => ((numF 1 (numF 0 (li, p.1))).1, (numF 1 (numF 0 (li, p.1))).2, p.2)
theorem eight {α : Type} {l : List α} (h : l.length = 8) : ∃ a b c d e f g k, l = [a, b, c, d, e, f, g, k] := by
 match l, h with
 | [a, b, c, d, e, f, g, k], _ => exact ⟨a, b, c, d, e, f, g, k, rfl⟩
theorem nn (n : Nat) : ((n : Int) < 0) = False := eq_false (by omega)
theorem nn1 (n : Nat) : (0 ≤ (n : Int) + 1) = True := eq_true (by omega)
set_option maxHeartbeats 4000000 in
theorem rowS_eq (lv : Nat → Bool) {r : List Nat} (hr8 : r.length = 8) (li : List Nat) : rowS lv r li = rowT lv r li := by
 obtain ⟨t0, t1, t2, t3, t4, t5, t6, t7, rfl⟩ := eight hr8
 simp only [rowS, rowT, colsF, runA, runB]
 cases h2 : lv t2 <;> cases h5 : lv t5 <;> cases h6 : lv t6 <;> cases h7 : lv t7 <;> cases h0 : lv t0 <;> cases h3 : lv t3 <;> cases h1 : lv t1 <;> cases h4 : lv t4
 all_goals first
  | (simp [colF, pairF, h0, h1, h2, h3, h4, h5, h6, h7, numF, nn]; done)
  | (simp [colF, pairF, h0, h1, h2, h3, h4, h5, h6, h7, numF, nn]; cases find id t1 li <;> simp [nn, nn1] <;> done)
  | (simp [colF, pairF, h0, h1, h2, h3, h4, h5, h6, h7, numF, nn]; cases find id t4 li <;> simp [nn, nn1] <;> done)
  | (simp [colF, pairF, h0, h1, h2, h3, h4, h5, h6, h7, numF, nn]; cases find id t0 li <;> simp [nn, nn1] <;> done)
  | (simp [colF, pairF, h0, h1, h2, h3, h4, h5, h6, h7, numF, nn]; cases find id t3 li <;> simp [nn, nn1] <;> done)
  | (simp [colF, pairF, h0, h1, h2, h3, h4, h5, h6, h7, numF, nn]; cases find id t0 li <;> simp [nn, nn1] <;> (first | done | (cases find id t1 li <;> simp [nn, nn1] <;> done) | (cases find id t1 (li ++ [t0]) <;> simp [nn, nn1] <;> done)))
  | (simp [colF, pairF, h0, h1, h2, h3, h4, h5, h6, h7, numF, nn]; cases find id t0 li <;> simp [nn, nn1] <;> (first | done | (cases find id t4 li <;> simp [nn, nn1] <;> done) | (cases find id t4 (li ++ [t0]) <;> simp [nn, nn1] <;> done)))
  | (simp [colF, pairF, h0, h1, h2, h3, h4, h5, h6, h7, numF, nn]; cases find id t3 li <;> simp [nn, nn1] <;> (first | done | (cases find id t1 li <;> simp [nn, nn1] <;> done) | (cases find id t1 (li ++ [t3]) <;> simp [nn, nn1] <;> done)))
  | (simp [colF, pairF, h0, h1, h2, h3, h4, h5, h6, h7, numF, nn]; cases find id t3 li <;> simp [nn, nn1] <;> (first | done | (cases find id t4 li <;> simp [nn, nn1] <;> done) | (cases find id t4 (li ++ [t3]) <;> simp [nn, nn1] <;> done)))
/-- The arrays of a round: nothing, or a state. -/
structure ArOk (n : Nat) (p : Ar) : Prop where
 lN : p.1.length = 2
 lO : p.2.length = 2
 st : ∀ x ∈ p.1, x = -1 ∨ ∃ t : Nat, t < n ∧ x = (t : Int)
theorem ArOk.start (n : Nat) : ArOk n ([-1, -1], [⟨#[]⟩, ⟨#[]⟩]) := ⟨rfl, rfl, fun x hx => by
 simp only [List.mem_cons, List.not_mem_nil, or_false, or_self] at hx
 exact .inl hx⟩
theorem ArOk.set {n : Nat} {p : Ar} (h : ArOk n p) (x : Nat) {t : Nat} (ht : t < n) (u : ByteArray) : ArOk n (p.1.set x (t : Int), p.2.set x u) :=
 ⟨by simp [h.lN], by simp [h.lO], fun y hy => (List.mem_or_eq_of_mem_set hy).elim (h.st y) (fun e => .inr ⟨t, ht, e⟩)⟩
theorem colsF_step {lv : Nat → Bool} {r : List Nat} {c : Nat} (hc : c < 8) (s : Ar) : colsF lv r ([0, 1, 2, 3, 4, 5, 6, 7].drop c) s = (colF lv r c s).bind (colsF lv r ([0, 1, 2, 3, 4, 5, 6, 7].drop (c + 1))) := by
 match c, hc with
 | 0, _ => rfl
 | 1, _ => rfl
 | 2, _ => rfl
 | 3, _ => rfl
 | 4, _ => rfl
 | 5, _ => rfl
 | 6, _ => rfl
 | 7, _ => rfl
theorem colF_dead {lv : Nat → Bool} {r : List Nat} {c : Nat} {s : Ar} (h : lv (r.getD c 0) = false) : colF lv r c s = some s := by unfold colF; rw [if_pos h]
theorem colF_bad {lv : Nat → Bool} {r : List Nat} {c : Nat} {s : Ar} (h : lv (r.getD c 0) = true) (hb : c % 3 = 2 ∨ c / 3 = 2 ∨ 0 ≤ s.1.getD (c % 3) (-1)) : colF lv r c s = none := by unfold colF; rw [if_neg (by rw [h]; simp), if_pos hb]
theorem colF_good {lv : Nat → Bool} {r : List Nat} {c : Nat} {s : Ar} (h : lv (r.getD c 0) = true) (hb : ¬ (c % 3 = 2 ∨ c / 3 = 2 ∨ 0 ≤ s.1.getD (c % 3) (-1))) : colF lv r c s = some (s.1.set (c % 3) (r.getD c 0 : Int), s.2.set (c % 3) (ab (c / 3))) := by unfold colF; rw [if_neg (by rw [h]; simp), if_neg hb]
end Go.Proofs.YtbamnonamdpooaaDoor.Sp
namespace Go.Proofs.YtbamnonamdpooaaDoor.Sb
set_option linter.unusedVariables false
set_option linter.unusedSimpArgs false
open Go.RowKit Go.Proofs.YtbamnonamdpooaaDoorW.PrintWords Go.Proofs.YtbamnonamdpooaaDoorW.PrintLast Go.Proofs.YtbamnonamdpooaaDoorW.PrintMore Go.Proofs.YtbamnonamdpooaaDoor.Mp Go.Proofs.YtbamnonamdpooaaDoor.Kp Go.Proofs.YtbamnonamdpooaaDoor.Ky Go.Proofs.YtbamnonamdpooaaDoor.Mg Go.Proofs.YtbamnonamdpooaaDoor.Tdy Go.Proofs.YtbamnonamdpooaaDoor.Rg Go.Proofs.YtbamnonamdpooaaDoor.Tw
/-- What comes out: marks, numbers, letters, whether there is a scribe. -/
def outcome (accs : List Bool) : Option Sc → List Bool × List (List Int) × List (List ByteArray) × Bool
 | none => ([], [], [], false)
 | some s => (s.1.map (acF accs), s.2.1, s.2.2, true)
theorem int_at {W : World} {A : Option Addr} {n : Nat} {l : List Int} (h : (Kd.int .i64).C W A n l) (q : Nat) (hq : q < l.length) : ∃ ad, A = some ad ∧ W.cell? (ad.add q) = some (.int .i64 (l.getD q (-1))) := by
 obtain ⟨ad, e, k⟩ := at_num h q hq
 refine ⟨ad, e, ?_⟩
 rw [k]
 simp [List.getD_eq_getElem?_getD, hq]
theorem li_at {W : World} {e base n c i : Nat} {ok : Nat → Prop} {A : Option Addr} {l : List Nat} (h : (Kd.int .i64).R e W base ok (.slice A n c) (ints l)) (hi : i < l.length) : ∃ ad, A = some ad ∧ W.cell? (ad.add i) = some (.int .i64 (l[i] : Int)) := by
 obtain ⟨_, _, hC⟩ := Kd.R_reads' h
 obtain ⟨ad, e1, k⟩ := at_num hC i (by rw [ints_length]; exact hi)
 rw [ints_get l i _ hi] at k
 exact ⟨ad, e1, k⟩
theorem wrap_b {b : Nat} (h : b < 2) : wrap64 ((b : Int) + 1) = (b : Int) + 1 := by unfold wrap64; omega
theorem two_list {α : Type} {l : List α} (h : l.length = 2) : ∃ x y, l = [x, y] := by
 match l, h with
 | [x, y], _ => exact ⟨x, y, rfl⟩
theorem zero_i64 (w : World) : (zeroValue 2).run Tryd.prog w = .ok (.int .i64 0) w := by kernel_rfl
theorem cell_up {w w' : World} (hb : Below w.heap.size w w') {a : Addr} {v : Value} (hc : w.cell? a = some v) : w'.cell? a = some v := (hb.cell (World.block_lt_of_cell? w a hc)).trans hc
set_option maxHeartbeats 8000000 in
set_option maxRecDepth 100000 in
theorem scribe (tapes : Int) (start : Nat) (accs : List Bool) (rows : List (List Nat)) (hcl : Closed 8 rows accs) (hn : rows.length ≤ 1000000) (hst : start < rows.length)
  (lv : Nat → Bool) (fr : List Int) (hfl : fr.length = rows.length) (hfr : ∀ q, q < rows.length → (fr.getD q (-1) < 0 ↔ lv q = false))
  (w : World) (AA : Option Addr) (ca : Nat) (AN : Option Addr) (cn : Nat) (hA : Kd.C Kd.bool w AA accs.length accs) (hN : Kd.C (Kd.slice 3 (Kd.int .i64)) w AN rows.length (rows.map ints)) (hca : accs.length ≤ ca) (hcn : rows.length ≤ cn)
  (hfar : ∀ W, Below w.heap.size w W → Calls Tryd.prog 115 #[.agg #[.int .i64 tapes, .int .i64 start, .slice AA accs.length ca, .slice AN rows.length cn]] W fun e W' => ∃ v, e = .returned v ∧ Kd.R (Kd.int .i64) 3 W' W.heap.size (fun _ => True) v fr ∧ Below W.heap.size W W')
  (hcol : ∀ W A c (a b : Nat), a ≤ 2 → b ≤ 2 → Kd.C (Kd.int .i64) W A 2 [(a : Int), (b : Int)] → 2 ≤ c → Calls Tryd.prog 116 #[.slice A 2 c] W fun e W' => e = .returned (.int .i64 ((a + 3 * b : Nat) : Int)) ∧ Below W.heap.size W W')
  (hlive : lv start = true) (f : Nat) (res : Option Sc) (hres : scr lv rows f 0 [start] [] [] = some res) :
  Calls Tryd.prog 54 #[.agg #[.int .i64 tapes, .int .i64 start, .slice AA accs.length ca, .slice AN rows.length cn]] w fun e w' => ∃ vA vN vO, e = .returned (.tuple #[.agg #[vA, vN, vO], .bool (outcome accs res).2.2.2]) ∧
   Kd.R Kd.bool 4 w' w.heap.size (fun _ => True) vA (outcome accs res).1 ∧ Kd.R Pair 89 w' w.heap.size (fun _ => True) vN (outcome accs res).2.1 ∧ Kd.R Text2 90 w' w.heap.size (fun _ => True) vO (outcome accs res).2.2.1 ∧ Below w.heap.size w w' := by
 have hmm := @run_makeMap Tryd.prog
 have hk0 : keyOf Tryd.prog 3 (.int .i64 (start : Int)) = some (.int .i64 (start : Int)) := int_key ⟨by omega, by omega⟩
 have hnf : (fr.getD start (-1) < 0) = False := eq_false (fun h => by have h2 := (hfr start hst).1 h; rw [hlive] at h2; cases h2)
 obtain ⟨fS, hfS⟩ : ∃ x, fr.getD start (-1) = x := ⟨_, rfl⟩
 rw [hfS] at hnf
 replace hfS := Aside0.mk hfS
 go_enter Tryd.func54, Tryd.ntmps54
 go_wp2_with (first
  | (go_at_call 115; go_loud (
    have hB0 := below_alloc (below_alloc (Below.refl w.heap.size w) (.cells #[.int .i64 tapes, .int .i64 start, .slice AA accs.length ca, .slice AN rows.length cn] 77)) (.cells #[.slice none 0 0, .slice none 0 0, .slice none 0 0] 40)
    with_reducible refine (hfar _ hB0).mono ?_
    rintro e w1 ⟨vF, rfl, rF, hb1⟩
    have bM := blk_below (blk_alloc (blk_new w (.cells #[.int .i64 tapes, .int .i64 start, .slice AA accs.length ca, .slice AN rows.length cn] 77)) (.cells #[.slice none 0 0, .slice none 0 0, .slice none 0 0] 40)) hb1
    have bR := blk_below (blk_at (w.alloc (.cells #[.int .i64 tapes, .int .i64 start, .slice AA accs.length ca, .slice AN rows.length cn] 77)) (.cells #[.slice none 0 0, .slice none 0 0, .slice none 0 0] 40) (w.heap.size + 1) (by simp)) hb1
    have hB1 := below_step hB0 hb1
    obtain ⟨AF, cF, hvF⟩ := Kd.R_slice rF
    subst hvF
    rw [hfl] at rF
    obtain ⟨hq1, hq2, hCF⟩ := Kd.R_reads' rF
    clear hq1
    rw [hfl] at hCF
    obtain ⟨adF, rfl, kF⟩ := int_at hCF start (by omega)
    rw [hfS.out] at kF
    have m1 : w1.cell? ⟨w.heap.size, 1, none⟩ = some (.int .i64 (start : Int)) := (blk_cell bM 1).trans rfl
    have hst1 : ((start : Int) < (fr.length : Int)) = True := eq_true (by omega)
    have hst2 : ((start : Int) < (rows.length : Int)) = True := eq_true (by omega)
    have h0s : (0 ≤ (start : Int)) = True := eq_true (by omega)
    have m2 : ((w1.alloc (.cells #[.slice none 0 0, .slice none 0 0, .slice none 0 0] 40)).alloc (.map #[] 0)).cell? ⟨w.heap.size, 1, none⟩ = some (.int .i64 (start : Int)) := (blk_cell (blk_alloc (blk_alloc bM _) _) 1).trans rfl))
  | ((with_reducible refine gate_insert rfl ?_); go_loud (
    refine at_put (b := w1.heap.size + 1) (es := []) ?hF int_law rfl _ _ _ 133 2 (Or.inr rfl) Tryd.underlying133 (by decide) rfl _ (.int .i64 0) hk0 rfl rfl (fun p hp => by cases hp) ?hKk
    (case hF => exact FMap.of_empty (blk_at _ _ _ (by simp)))
    intro w2 hF hg
    have hK := Keep.grown hg
    have bX := hK.obj (blk_alloc (blk_new w1 (.cells #[.slice none 0 0, .slice none 0 0, .slice none 0 0] 40)) (.map #[] 0)) (by simp)
    have hbe : Below w1.heap.size w1 w2 := (below_alloc (below_alloc (Below.refl _ _) _) _).grown hg (by simp <;> omega) (fun k hk => by cases hk; omega)
    have m3 : w2.cell? ⟨w.heap.size, 1, none⟩ = some (.int .i64 (start : Int)) := (blk_cell (blk_below bM hbe) 1).trans rfl)))
 have h5 : Mem w1 w1.heap.size (w1.heap.size + 1) none none (ints [start]) (.slice (some ⟨w2.heap.size, 0, none⟩) 1 1) [start] (.slice none 0 0) [] (.slice none 0 0) [] (.slice none 0 0) [] (w2.alloc (.cells #[.int .i64 start] 3)) :=
  ⟨blk_alloc bX _, map_keep hF (Keep.below (below_alloc (Below.refl _ _) _)) (by simp), R_one (Kd.int .i64) _ w2 _ (Below.size hbe) (okp := fun _ => False) (cs := [.int .i64 start]) rfl (fun _ h => h.elim) trivial, Kd.R_nil _ _ _ _ _, Kd.R_nil _ _ _ _ _, Kd.R_nil _ _ _ _ _, Nat.le_refl _, by omega, below_alloc hbe _⟩
 clear hF hg hK bX hbe m1 m2 m3 kF hst1 hst2 h0s hmm hk0
 have hfr2 := Aside0.mk hfr
 have hcol2 := Aside0.mk hcol
 have hA1 := Kd.C_below hA hB1
 have hN1 := Kd.C_below hN hB1
 clear hfr hcol hfar hA hN hB0 hb1
 go_loopg [7, 8] f (fun kf v7 v8 wr => ∃ (i : Nat) (li : List Nat) (nx : List (List Int)) (ot : List (List ByteArray)) (AL : Option Addr) (cL : Nat) (vA vN vO : Value), v7 = .slice AL li.length cL ∧ v8 = .int .i64 (i : Int) ∧ Aside0 (scr lv rows kf i li nx ot = some res) ∧ Aside0 (nx.length = i) ∧ Aside0 (ot.length = i) ∧ i ≤ li.length ∧ Aside0 (∀ q ∈ li, q < rows.length) ∧ Aside0 li.Nodup ∧
  Aside0 (Mem w1 w1.heap.size (w1.heap.size + 1) none none (ints li) (.slice AL li.length cL) li vA ((li.take i).map (acF accs)) vN nx vO ot wr))
 case atStart => exact ⟨0, [start], [], [], _, _, _, _, _, rfl, rfl, ⟨hres⟩, ⟨rfl⟩, ⟨rfl⟩, Nat.zero_le _, ⟨fun q hq => by rw [List.mem_singleton.1 hq]; exact hst⟩, ⟨by simp⟩, ⟨h5⟩⟩
 case round =>
  clear h5
  obtain ⟨wo, rfl⟩ : ∃ wo : World, wo = wr := ⟨_, rfl⟩
  obtain ⟨i, li, nx, ot, AL, cL, vA, vN, vO, rfl, rfl, H, hnl, hol, hil, hQl, hnd, h⟩ := hrel
  replace h := h.out
  cases gk with
  | zero => exact absurd H.out (by simp [scr])
  | succ kf =>
  have H1 := H.out
  unfold scr at H1
  by_cases hlt : i < li.length
  ·rw [dif_pos hlt] at H1
   have HH := Aside0.mk H1
   clear H1 H
   have hlt1 : ((i : Int) < (li.length : Int)) = True := eq_true (by omega)
   have h0i : (0 ≤ (i : Int)) = True := eq_true (by omega)
   go_wp2_with fail
   have h0 : Now w1 w1.heap.size (w1.heap.size + 1) wo.heap.size (wo.heap.size + 1) (.slice AL li.length cL) (li, [-1, -1], [⟨#[]⟩, ⟨#[]⟩]) vA ((li.take i).map (acF accs)) vN nx vO ot ((wo.alloc (.cells #[.int .i64 (-1), .int .i64 (-1)] 89)).alloc (.cells #[.string ⟨#[]⟩, .string ⟨#[]⟩] 90)) :=
    ⟨(h.begin (Nat.le_refl _) (by omega)).step (below_alloc (below_alloc (Below.refl _ _) _) _), blk_alloc (blk_new _ _) _, blk_at _ _ _ (by simp), Below.size h.bel, by have := Below.size h.bel; omega⟩
   generalize (wo.alloc (.cells #[.int .i64 (-1), .int .i64 (-1)] 89)).alloc (.cells #[.string ⟨#[]⟩, .string ⟨#[]⟩] 90) = wn at *
   have hv0 := Inv.start hQl.out hnd.out
   have hli := hv0.le
   obtain ⟨gO, hgO⟩ : ∃ g, wo.heap.size + 1 = g := ⟨_, rfl⟩
   rw [hgO] at h0
   simp only [hgO]
   clear h hgO
   generalize wo.heap.size = gN at *
   obtain ⟨k, hk⟩ : ∃ k, li[i] = k := ⟨_, rfl⟩
   have hkr : k < rows.length := by rw [← hk]; exact hQl.out _ (List.getElem_mem hlt)
   obtain ⟨r, hr⟩ : ∃ r, rows.getD k [] = r := ⟨_, rfl⟩
   have hrk : rows[k] = r := by rw [← hr]; simp [List.getD_eq_getElem?_getD, hkr]
   have hr8 : r.length = 8 := by rw [← hrk]; exact hcl.wide _ (List.getElem_mem hkr)
   have hrl : ∀ q ∈ r, q < rows.length := by rw [← hrk]; exact hcl.lt _ (List.getElem_mem hkr)
   have H2 := HH.out
   rw [hk, hr] at H2
   clear HH
   obtain ⟨rt, hrt⟩ : ∃ rt, rowT lv r li = rt := ⟨_, rfl⟩
   rw [hrt] at H2
   have HH := Aside0.mk H2
   unfold rowT at hrt
   have HR0 := Aside0.mk hrt
   clear H2 hrt
   obtain ⟨a7, rfl, e7⟩ := li_at h0.m.lst (i := i) hlt
   rw [hk] at e7
   obtain ⟨a2, rfl, A9, c9, e9, hl9, hC9⟩ := at_row hN1 k (by rw [List.length_map]; exact hkr)
   rw [List.getElem_map, hrk, ints_length, hr8] at e9 hl9
   rw [List.getElem_map, hrk, ints_length, hr8] at hC9
   have e9n := cell_up h0.m.bel e9
   have e3 : wn.cell? ⟨w.heap.size, 3, none⟩ = some (.slice (some a2) rows.length cn) := (blk_cell (blk_below bM h0.m.bel) 3).trans rfl
   have hkr2 : ((k : Int) < (rows.length : Int)) = True := eq_true (by omega)
   have h0k : (0 ≤ (k : Int)) = True := eq_true (by omega)
   go_quiet (fail)
   generalize nq = n1
   replace h0 := h0.step (pw_below_drewN (Below.refl _ _) n1)
   generalize wn.drewN n1 = wp at *
   clear e7 e3 e9n h0i hlt1 h0k hkr2
   go_wp2_with fail
   go_loopg [7, 12] 3 (fun kq v7 v12 wq => ∃ (a : Nat) (s : St) (A' : Option Addr) (c' : Nat), v7 = .slice A' s.1.length c' ∧ v12 = .int .i64 (a : Int) ∧ Aside0 (kq = 3 - a) ∧ a ≤ 3 ∧ Aside0 (runA lv r ([0, 1, 2].drop a) s = rt) ∧ Aside0 (Inv rows.length li s) ∧
    Aside0 (Now w1 w1.heap.size (w1.heap.size + 1) gN gO (.slice A' s.1.length c') s vA ((li.take i).map (acF accs)) vN nx vO ot wq))
   case atStart => exact ⟨0, (li, [-1, -1], [⟨#[]⟩, ⟨#[]⟩]), _, _, rfl, rfl, ⟨rfl⟩, by omega, HR0, ⟨hv0⟩, ⟨h0⟩⟩
   case round =>
    clear h0 HR0
    obtain ⟨a, s, A', c', rfl, rfl, hkq, ha3, HR, hv, hq⟩ := hrel
    replace hq := hq.out
    by_cases hla : a < 3
    ·have HR1 := HR.out
     rw [runA_step hla] at HR1
     have HB0 := Aside0.mk HR1
     clear HR1 HR
     have hla1 : ((a : Int) ≤ 2) = True := eq_true (by omega)
     go_wp2_with fail
     go_loopg [7, 13] 3 (fun kz v7 v13 wz => ∃ (b : Nat) (s : St) (A' : Option Addr) (c' : Nat), v7 = .slice A' s.1.length c' ∧ v13 = .int .i64 (b : Int) ∧ Aside0 (kz = 3 - b) ∧ b ≤ 3 ∧ Aside0 ((runB lv r a ([0, 1, 2].drop b) s).bind (runA lv r ([0, 1, 2].drop (a + 1))) = rt) ∧ Aside0 (Inv rows.length li s) ∧
      Aside0 (Now w1 w1.heap.size (w1.heap.size + 1) gN gO (.slice A' s.1.length c') s vA ((li.take i).map (acF accs)) vN nx vO ot wz))
     case atStart => exact ⟨0, s, _, _, rfl, rfl, ⟨rfl⟩, by omega, HB0, hv, ⟨hq⟩⟩
     case round =>
      clear hq HB0
      obtain ⟨b, s, A', c', rfl, rfl, hkz, hb3, HB, hv, hz⟩ := hrel
      replace hz := hz.out
      by_cases hlb : b < 3
      ·have HB1 := HB.out
       rw [runB_step hlb] at HB1
       have HB := Aside0.mk HB1
       clear HB1
       have hlb1 : ((b : Int) ≤ 2) = True := eq_true (by omega)
       by_cases hab : a = 2 ∧ b = 2
       ·have ea : ((a : Int) = 2) = True := eq_true (by omega)
        have ea2 : ((a : Int) == 2) = true := by simp <;> omega
        have eb : ((b : Int) = 2) = True := eq_true (by omega)
        have eb2 : ((b : Int) == 2) = true := by simp <;> omega
        have HB2 := HB.out
        rw [pairF_skip hab] at HB2
        have HB3 := Aside0.mk HB2
        clear HB2 HB
        go_wp2_with fail
        go_roundg (3 - (b + 1))
        case measure => have := hkz.out; omega
        case rel => exact ⟨b + 1, s, A', c', rfl, (by go_num), ⟨rfl⟩, by omega, HB3, hv, ⟨hz⟩⟩
       ·have hcase : (a = 2 ∧ b < 2) ∨ (a < 2 ∧ b = 2) ∨ (a < 2 ∧ b < 2) := by omega
        have hc8 : a + 3 * b < r.length := by omega
        obtain ⟨ad9, h9, et⟩ := at_num hC9 (a + 3 * b) (by rw [ints_length]; exact hc8)
        subst h9
        rw [ints_get r _ _ hc8] at et
        obtain ⟨t, ht⟩ : ∃ t, r[a + 3 * b] = t := ⟨_, rfl⟩
        have htl : t < rows.length := by rw [← ht]; exact hrl _ (List.getElem_mem hc8)
        rw [ht] at et
        have htD : r.getD (a + 3 * b) 0 = t := by rw [← ht]; simp [List.getD_eq_getElem?_getD, hc8]
        clear ht
        obtain ⟨adF2, eF, ef⟩ := int_at hCF t (by omega)
        cases eF
        have hft := hfr2.out t htl
        obtain ⟨y9, hy9⟩ : ∃ x, fr.getD t (-1) = x := ⟨_, rfl⟩
        rw [hy9] at ef hft
        clear hy9
        have htl1 : ((t : Int) < (rows.length : Int)) = True := eq_true (by omega)
        have htl2 : (0 ≤ (t : Int)) = True := eq_true (by omega)
        obtain ⟨cc, hcc⟩ : ∃ cc, a + 3 * b = cc := ⟨_, rfl⟩
        rw [hcc] at et htD
        have hc81 : ((cc : Int) < 8) = True := eq_true (by omega)
        have hc82 : (0 ≤ (cc : Int)) = True := eq_true (by omega)
        have htD2 : r.getD (a + 3 * b) 0 = t := by rw [hcc]; exact htD
        clear hc8 htD
        cases hlt : lv t with
        | false =>
         have hf0 : (y9 < 0) = True := eq_true (hft.2 hlt)
         have HB2 := HB.out
         rw [pairF_dead hab (by rw [htD2]; exact hlt)] at HB2
         have HB3 := Aside0.mk HB2
         clear HB2 HB hft
         rcases hcase with ⟨h1, h2⟩ | ⟨h1, h2⟩ | ⟨h1, h2⟩
         ·have ea : ((a : Int) = 2) = True := eq_true (by omega)
          have ea2 : ((a : Int) == 2) = true := by simp <;> omega
          have eb : ((b : Int) = 2) = False := eq_false (by omega)
          have eb2 : ((b : Int) == 2) = false := by simp <;> omega
          clear h1 h2
          go_wp2_with (go_at_call 116; go_loud (
          with_reducible refine (hcol2.out _ _ _ a b (by omega) (by omega) (two_lit _ _ _ _) (by omega)).mono ?_
          rintro e w3 ⟨he, hb3⟩
          rw [hcc] at he
          subst he
          have g2 := (hz.step (below_alloc (Below.refl _ _) (.cells #[.int .i64 (a : Int), .int .i64 (b : Int)] 3))).step hb3
          clear hb3
          have kt := cell_up g2.m.bel et
          have kf := cell_up g2.m.bel ef))
          go_roundg (3 - (b + 1))
          case measure => have := hkz.out; omega
          case rel => exact ⟨b + 1, s, A', c', rfl, (by go_num), ⟨rfl⟩, by omega, HB3, hv, ⟨g2⟩⟩
         ·have ea : ((a : Int) = 2) = False := eq_false (by omega)
          have ea2 : ((a : Int) == 2) = false := by simp <;> omega
          have eb : ((b : Int) = 2) = True := eq_true (by omega)
          have eb2 : ((b : Int) == 2) = true := by simp <;> omega
          clear h1 h2
          go_wp2_with (go_at_call 116; go_loud (
          with_reducible refine (hcol2.out _ _ _ a b (by omega) (by omega) (two_lit _ _ _ _) (by omega)).mono ?_
          rintro e w3 ⟨he, hb3⟩
          rw [hcc] at he
          subst he
          have g2 := (hz.step (below_alloc (Below.refl _ _) (.cells #[.int .i64 (a : Int), .int .i64 (b : Int)] 3))).step hb3
          clear hb3
          have kt := cell_up g2.m.bel et
          have kf := cell_up g2.m.bel ef))
          go_roundg (3 - (b + 1))
          case measure => have := hkz.out; omega
          case rel => exact ⟨b + 1, s, A', c', rfl, (by go_num), ⟨rfl⟩, by omega, HB3, hv, ⟨g2⟩⟩
         ·have ea : ((a : Int) = 2) = False := eq_false (by omega)
          have ea2 : ((a : Int) == 2) = false := by simp <;> omega
          have eb : ((b : Int) = 2) = False := eq_false (by omega)
          have eb2 : ((b : Int) == 2) = false := by simp <;> omega
          clear h1 h2
          go_wp2_with (go_at_call 116; go_loud (
          with_reducible refine (hcol2.out _ _ _ a b (by omega) (by omega) (two_lit _ _ _ _) (by omega)).mono ?_
          rintro e w3 ⟨he, hb3⟩
          rw [hcc] at he
          subst he
          have g2 := (hz.step (below_alloc (Below.refl _ _) (.cells #[.int .i64 (a : Int), .int .i64 (b : Int)] 3))).step hb3
          clear hb3
          have kt := cell_up g2.m.bel et
          have kf := cell_up g2.m.bel ef))
          go_roundg (3 - (b + 1))
          case measure => have := hkz.out; omega
          case rel => exact ⟨b + 1, s, A', c', rfl, (by go_num), ⟨rfl⟩, by omega, HB3, hv, ⟨g2⟩⟩
        | true =>
         have hf0 : (y9 < 0) = False := eq_false (fun h => by have := hft.1 h; rw [hlt] at this; cases this)
         clear hft
         have hbadr : (a = 2 ∨ b = 2 ∨ 0 ≤ s.2.1.getD a (-1)) → res = none := fun h => by
          have h2 := HB.out
          rw [pairF_bad hab (by rw [htD2]; exact hlt) h] at h2
          have h3 := HH.out
          rw [← (show none = rt from h2)] at h3
          exact (Option.some.inj h3).symm
         rcases hcase with ⟨h1, h2⟩ | ⟨h1, h2⟩ | ⟨h1, h2⟩
         ·have hrn := hbadr (Or.inl h1)
          have ea : ((a : Int) = 2) = True := eq_true (by omega)
          have ea2 : ((a : Int) == 2) = true := by simp <;> omega
          have eb : ((b : Int) = 2) = False := eq_false (by omega)
          have eb2 : ((b : Int) == 2) = false := by simp <;> omega
          clear h1 h2 hbadr HB HH
          subst hrn
          go_wp2_with (go_at_call 116; go_loud (
          with_reducible refine (hcol2.out _ _ _ a b (by omega) (by omega) (two_lit _ _ _ _) (by omega)).mono ?_
          rintro e w3 ⟨he, hb3⟩
          rw [hcc] at he
          subst he
          have g2 := (hz.step (below_alloc (Below.refl _ _) (.cells #[.int .i64 (a : Int), .int .i64 (b : Int)] 3))).step hb3
          clear hb3
          have kt := cell_up g2.m.bel et
          have kf := cell_up g2.m.bel ef
          have bR2 := blk_below bR g2.m.bel
          have d0 : w3.cell? ⟨w.heap.size + 1, 0, none⟩ = some (.slice none 0 0) := (blk_cell bR2 0).trans rfl
          have d1 : w3.cell? ⟨w.heap.size + 1, 1, none⟩ = some (.slice none 0 0) := (blk_cell bR2 1).trans rfl
          have d2 : w3.cell? ⟨w.heap.size + 1, 2, none⟩ = some (.slice none 0 0) := (blk_cell bR2 2).trans rfl
          have f0 : w3.frozen? ⟨w.heap.size + 1, 0, none⟩ = false := blk_frozen bR2 0
          have f1 : w3.frozen? ⟨w.heap.size + 1, 1, none⟩ = false := blk_frozen bR2 1
          have f2 : w3.frozen? ⟨w.heap.size + 1, 2, none⟩ = false := blk_frozen bR2 2))
          have hB := below_step hB1 g2.m.bel
          clear d0 d1 d2 f0 f1 f2
          have b1 := blk_put bR2 0 (.slice none 0 0) rfl
          have b2 := blk_put b1 1 (.slice none 0 0) rfl
          have b3 := blk_put b2 2 (.slice none 0 0) rfl
          refine bodyPost_ret (results_ct rfl _ _ (w.heap.size + 1) 40 #[.slice none 0 0, .slice none 0 0, .slice none 0 0] (0, 0) _ rfl b3 Tryd.underlying40 rfl (by kernel_rfl)) rfl ⟨_, _, _, rfl, Kd.R_nil _ _ _ _ _, Kd.R_nil _ _ _ _ _, Kd.R_nil _ _ _ _ _, ?_⟩
          exact ((hB.setCell (by simp) _).setCell (by simp) _).setCell (by simp) _
         ·have hrn := hbadr (Or.inr (Or.inl h2))
          have ea : ((a : Int) = 2) = False := eq_false (by omega)
          have ea2 : ((a : Int) == 2) = false := by simp <;> omega
          have eb : ((b : Int) = 2) = True := eq_true (by omega)
          have eb2 : ((b : Int) == 2) = true := by simp <;> omega
          clear h1 h2 hbadr HB HH
          subst hrn
          go_wp2_with (go_at_call 116; go_loud (
          with_reducible refine (hcol2.out _ _ _ a b (by omega) (by omega) (two_lit _ _ _ _) (by omega)).mono ?_
          rintro e w3 ⟨he, hb3⟩
          rw [hcc] at he
          subst he
          have g2 := (hz.step (below_alloc (Below.refl _ _) (.cells #[.int .i64 (a : Int), .int .i64 (b : Int)] 3))).step hb3
          clear hb3
          have kt := cell_up g2.m.bel et
          have kf := cell_up g2.m.bel ef
          have bR2 := blk_below bR g2.m.bel
          have d0 : w3.cell? ⟨w.heap.size + 1, 0, none⟩ = some (.slice none 0 0) := (blk_cell bR2 0).trans rfl
          have d1 : w3.cell? ⟨w.heap.size + 1, 1, none⟩ = some (.slice none 0 0) := (blk_cell bR2 1).trans rfl
          have d2 : w3.cell? ⟨w.heap.size + 1, 2, none⟩ = some (.slice none 0 0) := (blk_cell bR2 2).trans rfl
          have f0 : w3.frozen? ⟨w.heap.size + 1, 0, none⟩ = false := blk_frozen bR2 0
          have f1 : w3.frozen? ⟨w.heap.size + 1, 1, none⟩ = false := blk_frozen bR2 1
          have f2 : w3.frozen? ⟨w.heap.size + 1, 2, none⟩ = false := blk_frozen bR2 2))
          have hB := below_step hB1 g2.m.bel
          clear d0 d1 d2 f0 f1 f2
          have b1 := blk_put bR2 0 (.slice none 0 0) rfl
          have b2 := blk_put b1 1 (.slice none 0 0) rfl
          have b3 := blk_put b2 2 (.slice none 0 0) rfl
          refine bodyPost_ret (results_ct rfl _ _ (w.heap.size + 1) 40 #[.slice none 0 0, .slice none 0 0, .slice none 0 0] (0, 0) _ rfl b3 Tryd.underlying40 rfl (by kernel_rfl)) rfl ⟨_, _, _, rfl, Kd.R_nil _ _ _ _ _, Kd.R_nil _ _ _ _ _, Kd.R_nil _ _ _ _ _, ?_⟩
          exact ((hB.setCell (by simp) _).setCell (by simp) _).setCell (by simp) _
         ·have hla2 : a < 2 := h1
          have ea : ((a : Int) = 2) = False := eq_false (by omega)
          have ea2 : ((a : Int) == 2) = false := by simp <;> omega
          have eb : ((b : Int) = 2) = False := eq_false (by omega)
          have eb2 : ((b : Int) == 2) = false := by simp <;> omega
          obtain ⟨y, hy⟩ : ∃ y, s.2.1.getD a (-1) = y := ⟨_, rfl⟩
          rw [hy] at hbadr
          replace hy := Aside0.mk hy
          have ha2 : ((a : Int) < 2) = True := eq_true (by omega)
          have ha0 : (0 ≤ (a : Int)) = True := eq_true (by omega)
          by_cases hyn : 0 ≤ y
          ·have hrn := hbadr (Or.inr (Or.inr hyn))
           have hyn1 : (0 ≤ y) = True := eq_true hyn
           clear h1 hbadr HB HH
           subst hrn
           go_wp2_with (go_at_call 116; go_loud (
           with_reducible refine (hcol2.out _ _ _ a b (by omega) (by omega) (two_lit _ _ _ _) (by omega)).mono ?_
           rintro e w3 ⟨he, hb3⟩
           rw [hcc] at he
           subst he
           have g2 := (hz.step (below_alloc (Below.refl _ _) (.cells #[.int .i64 (a : Int), .int .i64 (b : Int)] 3))).step hb3
           clear hb3
           have kt := cell_up g2.m.bel et
           have kf := cell_up g2.m.bel ef
           have kN : w3.cell? ⟨gN, a, none⟩ = some (.int .i64 y) := by rw [← hy.out]; exact (blk_cell g2.bN a).trans (encI_get hv.out.lN hla2)
           have bR2 := blk_below bR g2.m.bel
           have d0 : w3.cell? ⟨w.heap.size + 1, 0, none⟩ = some (.slice none 0 0) := (blk_cell bR2 0).trans rfl
           have d1 : w3.cell? ⟨w.heap.size + 1, 1, none⟩ = some (.slice none 0 0) := (blk_cell bR2 1).trans rfl
           have d2 : w3.cell? ⟨w.heap.size + 1, 2, none⟩ = some (.slice none 0 0) := (blk_cell bR2 2).trans rfl
           have f0 : w3.frozen? ⟨w.heap.size + 1, 0, none⟩ = false := blk_frozen bR2 0
           have f1 : w3.frozen? ⟨w.heap.size + 1, 1, none⟩ = false := blk_frozen bR2 1
           have f2 : w3.frozen? ⟨w.heap.size + 1, 2, none⟩ = false := blk_frozen bR2 2))
           have hB := below_step hB1 g2.m.bel
           clear d0 d1 d2 f0 f1 f2
           have b1 := blk_put bR2 0 (.slice none 0 0) rfl
           have b2 := blk_put b1 1 (.slice none 0 0) rfl
           have b3 := blk_put b2 2 (.slice none 0 0) rfl
           refine bodyPost_ret (results_ct rfl _ _ (w.heap.size + 1) 40 #[.slice none 0 0, .slice none 0 0, .slice none 0 0] (0, 0) _ rfl b3 Tryd.underlying40 rfl (by kernel_rfl)) rfl ⟨_, _, _, rfl, Kd.R_nil _ _ _ _ _, Kd.R_nil _ _ _ _ _, Kd.R_nil _ _ _ _ _, ?_⟩
           exact ((hB.setCell (by simp) _).setCell (by simp) _).setCell (by simp) _
          ·have hyn1 : (0 ≤ y) = False := eq_false hyn
           clear hbadr
           clear HH
           cases hf : find id t s.1 with
           | some j =>
            have HB2 := HB.out
            rw [pairF_hit hla2 h2 (by rw [htD2]; exact hlt) (by rw [hy.out]; omega) (by rw [htD2]; exact hf)] at HB2
            have HB3 := Aside0.mk HB2
            have hjm := GwI.ents_hit ((find_ints t s.1).trans hf)
            unfold GwI.encP at hjm
            clear HB2 HB hf
            go_wp2_with (first
            | (go_at_call 116; go_loud (
             with_reducible refine (hcol2.out _ _ _ a b (by omega) (by omega) (two_lit _ _ _ _) (by omega)).mono ?_
             rintro e w3 ⟨he, hb3⟩
             rw [hcc] at he
             subst he
             have g2 := (hz.step (below_alloc (Below.refl _ _) (.cells #[.int .i64 (a : Int), .int .i64 (b : Int)] 3))).step hb3
             clear hb3
             have kt := cell_up g2.m.bel et
             have kf := cell_up g2.m.bel ef
             have kN : w3.cell? ⟨gN, a, none⟩ = some (.int .i64 y) := by rw [← hy.out]; exact (blk_cell g2.bN a).trans (encI_get hv.out.lN hla2)))
            | ((with_reducible refine gate_dst (N := 96) rfl ?_); go_loud (refine at_hit g2.m.map int_law rfl _ _ 133 2 rfl Tryd.underlying133 (zero_i64 _) rfl _ _ rfl hjm ?_)))
            have hQd := g2.step (below_drew1 (Below.refl _ _))
            have hw2 : (0 ≤ (b : Int) + 1 ∧ (b : Int) + 1 ≤ 2) = True := eq_true (by omega)
            have hw3 : ((b : Int) ≤ (b : Int) + 1) = True := eq_true (by omega)
            have hsl : ByteArray.extract ⟨#[97, 98]⟩ b (b + 1) = ab b := by
             match b, h2 with
             | 0, _ => rfl
             | 1, _ => rfl
            have hw1 := wrap_b h2
            refine start_ (n := 11) (S := fun _ => True) (ds := [10]) #[false, false, false, false, false, false, false, false, false, false, false] (by kernel_rfl) rfl rfl (trivial) (fun hHeld => ?_)
            refine pure_ (i := 0) (N := some 110) (v := ?_) (a' := ?_) #[true, false, false, false, false, false, false, false, false, false, false] rfl rfl (by kernel_rfl) (fun _ _ _ h => h) (Or.inl ⟨by rfl, ?_⟩) ?_ ?_
            rotate_left
            ·intro w'
             go_simp
             with_reducible rfl
            rotate_left
            ·simp only [Act.put, List.setIfInBounds_toArray, List.set_cons_zero, List.set_cons_succ, i64_w, i32_w]
             rfl
            refine pure_ (i := 1) (N := some 111) (v := ?_) (a' := ?_) #[true, true, false, false, false, false, false, false, false, false, false] rfl rfl (by kernel_rfl) (fun _ _ _ h => h) (Or.inl ⟨by rfl, ?_⟩) ?_ ?_
            rotate_left
            ·intro w'
             go_simp
             with_reducible rfl
            rotate_left
            ·simp only [Act.put, List.setIfInBounds_toArray, List.set_cons_zero, List.set_cons_succ, i64_w, i32_w]
             rfl
            refine pure_ (i := 2) (N := some 112) (v := ?_) (a' := ?_) #[true, true, true, false, false, false, false, false, false, false, false] rfl rfl (by kernel_rfl) (fun _ _ _ h => h) (Or.inl ⟨by rfl, ?_⟩) ?_ ?_
            rotate_left
            ·intro w'
             go_simp
             with_reducible rfl
            rotate_left
            ·simp only [Act.put, List.setIfInBounds_toArray, List.set_cons_zero, List.set_cons_succ, i64_w, i32_w]
             rfl
            refine pure_ (i := 3) (N := some 113) (v := ?_) (a' := ?_) #[true, true, true, true, false, false, false, false, false, false, false] rfl rfl (by kernel_rfl) (fun _ _ _ h => h) (Or.inl ⟨by rfl, ?_⟩) ?_ ?_
            rotate_left
            ·intro w'
             go_simp
             with_reducible rfl
            rotate_left
            ·simp only [Act.put, List.setIfInBounds_toArray, List.set_cons_zero, List.set_cons_succ, i64_w, i32_w]
             rfl
            refine pure_ (i := 4) (N := some 114) (v := ?_) (a' := ?_) #[true, true, true, true, true, false, false, false, false, false, false] rfl rfl (by kernel_rfl) (fun _ _ _ h => h) (Or.inl ⟨by rfl, ?_⟩) ?_ ?_
            rotate_left
            ·intro w'
             go_simp
             with_reducible rfl
            rotate_left
            ·simp only [Act.put, List.setIfInBounds_toArray, List.set_cons_zero, List.set_cons_succ, i64_w, i32_w]
             rfl
            refine pure_ (i := 5) (N := some 115) (v := ?_) (a' := ?_) #[true, true, true, true, true, true, false, false, false, false, false] rfl rfl (by kernel_rfl) (fun _ _ _ h => h) (Or.inl ⟨by rfl, ?_⟩) ?_ ?_
            rotate_left
            ·intro w'
             go_simp
             with_reducible rfl
            rotate_left
            ·simp only [Act.put, List.setIfInBounds_toArray, List.set_cons_zero, List.set_cons_succ, i64_w, i32_w]
             rfl
            refine pure_ (i := 6) (N := some 116) (v := ?_) (a' := ?_) #[true, true, true, true, true, true, true, false, false, false, false] rfl rfl (by kernel_rfl) (fun _ _ _ h => h) (Or.inl ⟨by rfl, ?_⟩) ?_ ?_
            rotate_left
            ·intro w'
             go_simp
             with_reducible rfl
            rotate_left
            ·simp only [Act.put, List.setIfInBounds_toArray, List.set_cons_zero, List.set_cons_succ, i64_w, i32_w]
             rfl
            clear hw1 hw2 hw3 hsl
            refine pure_ (i := 7) (N := some 117) (v := ?_) (a' := ?_) #[true, true, true, true, true, true, true, true, false, false, false] rfl rfl (by kernel_rfl) (fun _ _ _ h => h) (Or.inl ⟨by rfl, ?_⟩) ?_ ?_
            rotate_left
            ·intro w'
             go_simp
             with_reducible rfl
            rotate_left
            ·simp only [Act.put, List.setIfInBounds_toArray, List.set_cons_zero, List.set_cons_succ, i64_w, i32_w]
             rfl
            refine one_ (i := 8) (N := none) #[true, true, true, true, true, true, true, true, true, false, false] rfl rfl (by kernel_rfl) (by decide) (fun K hK => ?_)
            have f1 : w3.drew.frozen? ⟨gN, a, none⟩ = false := blk_frozen hQd.bN a
            have c1 : w3.drew.cell? ⟨gN, a, none⟩ = some (.int .i64 y) := by rw [← hy.out]; exact (blk_cell hQd.bN a).trans (encI_get hv.out.lN hla2)
            refine skip_ (w1 := w3.drew.setCell ⟨gN, a, none⟩ (.int .i64 (j : Int))) (by rfl) rfl (by first | (go_simp; done) | (go_simp; rfl)) ?_
            refine hK.out _ _ trivial (fun hHeld => ?_)
            clear hK K f1 c1
            refine pure_ (i := 9) (N := some 118) (v := ?_) (a' := ?_) #[true, true, true, true, true, true, true, true, true, true, false] rfl rfl (by kernel_rfl) (fun _ _ _ h => h) (Or.inl ⟨by rfl, ?_⟩) ?_ ?_
            rotate_left
            ·intro w'
             go_simp
             with_reducible rfl
            rotate_left
            ·simp only [Act.put, List.setIfInBounds_toArray, List.set_cons_zero, List.set_cons_succ, i64_w, i32_w]
             rfl
            refine last_ (i := 10) (N := none) #[true, true, true, true, true, true, true, true, true, true, true] rfl rfl (by kernel_rfl) (by decide) (fun K hK => ?_)
            have k2 := Keep.set w3 ⟨gN, a, none⟩ (.int .i64 (j : Int))
            have bO2 := k2.obj g2.bO (off_ne g2.bO (Off.cells g2.bN (by decide)))
            obtain ⟨z, hz2⟩ : ∃ z, s.2.2.getD a ⟨#[]⟩ = z := ⟨_, rfl⟩
            have f2 : w3.frozen? ⟨gO, a, none⟩ = false := blk_frozen g2.bO a
            have c2 := (blk_cell bO2 a).trans (encT_get hv.out.lO hla2)
            rw [hz2] at c2
            have hQ := hQd.set a (j : Int) (ab b)
            refine skip_ (w1 := (w3.drew.setCell ⟨gN, a, none⟩ (.int .i64 (j : Int))).setCell ⟨gO, a, none⟩ (.string (ab b))) (by rfl) rfl (by first | (go_simp; done) | (go_simp; rfl)) ?_
            refine hK.out _ _ ?_
            clear hK K
            refine done_ (by kernel_rfl) ?_
            clear k2 bO2 f2 c2 hQd
            generalize (w3.drew.setCell ⟨gN, a, none⟩ (.int .i64 (j : Int))).setCell ⟨gO, a, none⟩ (.string (ab b)) = w9 at *
            go_wp2_with fail
            go_roundg (3 - (b + 1))
            case measure => have := hkz.out; omega
            case rel => exact ⟨b + 1, (s.1, s.2.1.set a (j : Int), s.2.2.set a (ab b)), _, _, rfl, (by go_num), ⟨rfl⟩, by omega, HB3, ⟨hv.out.set _ _ _⟩, ⟨hQ⟩⟩
           | none =>
            have hkt : keyOf Tryd.prog 3 (.int .i64 (t : Int)) = some (.int .i64 (t : Int)) := int_key ⟨by omega, by omega⟩
            have hsl := hv.out.le
            have hv2 := hv.out.more htl hf a (s.1.length : Int) (ab b)
            have HB2 := HB.out
            rw [pairF_miss hla2 h2 (by rw [htD2]; exact hlt) (by rw [hy.out]; omega) (by rw [htD2]; exact hf), htD2] at HB2
            have HB3 := Aside0.mk HB2
            have hjm := GwI.ents_miss ((find_ints t s.1).trans hf)
            unfold GwI.encP at hjm
            have hen : ints (s.1 ++ [t]) = ints s.1 ++ [(t : Int)] := by simp [ints, GwI.ints]
            replace hen := Aside0.mk hen
            clear HB2 HB hf
            go_wp2_with (first
            | (go_at_call 116; go_loud (
             with_reducible refine (hcol2.out _ _ _ a b (by omega) (by omega) (two_lit _ _ _ _) (by omega)).mono ?_
             rintro e w3 ⟨he, hb3⟩
             rw [hcc] at he
             subst he
             have g2 := (hz.step (below_alloc (Below.refl _ _) (.cells #[.int .i64 (a : Int), .int .i64 (b : Int)] 3))).step hb3
             clear hb3
             have kt := cell_up g2.m.bel et
             have kf := cell_up g2.m.bel ef
             have kN : w3.cell? ⟨gN, a, none⟩ = some (.int .i64 y) := by rw [← hy.out]; exact (blk_cell g2.bN a).trans (encI_get hv.out.lN hla2)))
            | ((with_reducible refine gate_dst (N := 96) rfl ?_); go_loud (refine at_miss g2.m.map int_law rfl _ _ 133 2 rfl Tryd.underlying133 (zero_i64 _) rfl _ hkt rfl hjm ?_))
            | (at_mapUpdate; go_loud (
             refine at_put g2.m.map int_law rfl _ _ _ 133 2 (Or.inl rfl) Tryd.underlying133 (by rw [GwI.ents_length, ints_length]; unfold maxLen; omega) rfl _ (.int .i64 (s.1.length : Int)) hkt rfl rfl hjm ?_
             intro w5 hF5 hg5
             have hF6 : FMap Tryd.prog 3 w5 (w1.heap.size + 1) (GwI.ents (ints (s.1 ++ [t]))) := by
              rw [hen.out, GwI.ents_snoc, ints_length]
              exact hF5
             clear hF5
             obtain ⟨m5, n5, o5⟩ := g2.push hg5 hF6))
            | ((with_reducible refine gate_builtin (b := .append) (xs := #[.tmp 106, .tmp 108]) rfl ?_); go_loud (
             at_builtin
             refine R_append' (Kd.int .i64) (w0 := w1) w1.heap.size rfl (.tmp 106) (.tmp 108) 97 3 (.int .i64 0) 8 rfl Tryd.underlying97 GwI.info_int rfl (by decide) (by decide) (.slice A' s.1.length c') (ints s.1) (t : Int) [.int .i64 (t : Int)] (fun _ => True) (fun _ => False) _ (by simp) rfl rfl rfl (fun _ h => h.elim) (fun _ _ => trivial) m5.lst m5.bel (Below.size m5.bel) (by rw [ints_length]; omega) ?_
             intro v6 w6 hR6 hb6 hg6 hat6
             rw [← hen.out] at hR6
             obtain ⟨A6, c6, hv6⟩ := Kd.R_slice hR6
             subst hv6
             rw [ints_length] at hR6
             have g6 := m5.now n5 o5 g2.hN g2.hO hg6 hR6 hb6
             rw [ints_length, List.length_append, List.length_singleton])))
            have hQd := g6.step (below_drew1 (Below.refl _ _))
            have hw2 : (0 ≤ (b : Int) + 1 ∧ (b : Int) + 1 ≤ 2) = True := eq_true (by omega)
            have hw3 : ((b : Int) ≤ (b : Int) + 1) = True := eq_true (by omega)
            have hsl : ByteArray.extract ⟨#[97, 98]⟩ b (b + 1) = ab b := by
             match b, h2 with
             | 0, _ => rfl
             | 1, _ => rfl
            have hw1 := wrap_b h2
            refine start_ (n := 11) (S := fun _ => True) (ds := [10]) #[false, false, false, false, false, false, false, false, false, false, false] (by kernel_rfl) rfl rfl (trivial) (fun hHeld => ?_)
            refine pure_ (i := 0) (N := some 110) (v := ?_) (a' := ?_) #[true, false, false, false, false, false, false, false, false, false, false] rfl rfl (by kernel_rfl) (fun _ _ _ h => h) (Or.inl ⟨by rfl, ?_⟩) ?_ ?_
            rotate_left
            ·intro w'
             go_simp
             with_reducible rfl
            rotate_left
            ·simp only [Act.put, List.setIfInBounds_toArray, List.set_cons_zero, List.set_cons_succ, i64_w, i32_w]
             rfl
            refine pure_ (i := 1) (N := some 111) (v := ?_) (a' := ?_) #[true, true, false, false, false, false, false, false, false, false, false] rfl rfl (by kernel_rfl) (fun _ _ _ h => h) (Or.inl ⟨by rfl, ?_⟩) ?_ ?_
            rotate_left
            ·intro w'
             go_simp
             with_reducible rfl
            rotate_left
            ·simp only [Act.put, List.setIfInBounds_toArray, List.set_cons_zero, List.set_cons_succ, i64_w, i32_w]
             rfl
            refine pure_ (i := 2) (N := some 112) (v := ?_) (a' := ?_) #[true, true, true, false, false, false, false, false, false, false, false] rfl rfl (by kernel_rfl) (fun _ _ _ h => h) (Or.inl ⟨by rfl, ?_⟩) ?_ ?_
            rotate_left
            ·intro w'
             go_simp
             with_reducible rfl
            rotate_left
            ·simp only [Act.put, List.setIfInBounds_toArray, List.set_cons_zero, List.set_cons_succ, i64_w, i32_w]
             rfl
            refine pure_ (i := 3) (N := some 113) (v := ?_) (a' := ?_) #[true, true, true, true, false, false, false, false, false, false, false] rfl rfl (by kernel_rfl) (fun _ _ _ h => h) (Or.inl ⟨by rfl, ?_⟩) ?_ ?_
            rotate_left
            ·intro w'
             go_simp
             with_reducible rfl
            rotate_left
            ·simp only [Act.put, List.setIfInBounds_toArray, List.set_cons_zero, List.set_cons_succ, i64_w, i32_w]
             rfl
            refine pure_ (i := 4) (N := some 114) (v := ?_) (a' := ?_) #[true, true, true, true, true, false, false, false, false, false, false] rfl rfl (by kernel_rfl) (fun _ _ _ h => h) (Or.inl ⟨by rfl, ?_⟩) ?_ ?_
            rotate_left
            ·intro w'
             go_simp
             with_reducible rfl
            rotate_left
            ·simp only [Act.put, List.setIfInBounds_toArray, List.set_cons_zero, List.set_cons_succ, i64_w, i32_w]
             rfl
            refine pure_ (i := 5) (N := some 115) (v := ?_) (a' := ?_) #[true, true, true, true, true, true, false, false, false, false, false] rfl rfl (by kernel_rfl) (fun _ _ _ h => h) (Or.inl ⟨by rfl, ?_⟩) ?_ ?_
            rotate_left
            ·intro w'
             go_simp
             with_reducible rfl
            rotate_left
            ·simp only [Act.put, List.setIfInBounds_toArray, List.set_cons_zero, List.set_cons_succ, i64_w, i32_w]
             rfl
            refine pure_ (i := 6) (N := some 116) (v := ?_) (a' := ?_) #[true, true, true, true, true, true, true, false, false, false, false] rfl rfl (by kernel_rfl) (fun _ _ _ h => h) (Or.inl ⟨by rfl, ?_⟩) ?_ ?_
            rotate_left
            ·intro w'
             go_simp
             with_reducible rfl
            rotate_left
            ·simp only [Act.put, List.setIfInBounds_toArray, List.set_cons_zero, List.set_cons_succ, i64_w, i32_w]
             rfl
            clear hw1 hw2 hw3 hsl
            refine pure_ (i := 7) (N := some 117) (v := ?_) (a' := ?_) #[true, true, true, true, true, true, true, true, false, false, false] rfl rfl (by kernel_rfl) (fun _ _ _ h => h) (Or.inl ⟨by rfl, ?_⟩) ?_ ?_
            rotate_left
            ·intro w'
             go_simp
             with_reducible rfl
            rotate_left
            ·simp only [Act.put, List.setIfInBounds_toArray, List.set_cons_zero, List.set_cons_succ, i64_w, i32_w]
             rfl
            refine one_ (i := 8) (N := none) #[true, true, true, true, true, true, true, true, true, false, false] rfl rfl (by kernel_rfl) (by decide) (fun K hK => ?_)
            have f1 : w6.drew.frozen? ⟨gN, a, none⟩ = false := blk_frozen hQd.bN a
            have c1 : w6.drew.cell? ⟨gN, a, none⟩ = some (.int .i64 y) := by rw [← hy.out]; exact (blk_cell hQd.bN a).trans (encI_get hv.out.lN hla2)
            refine skip_ (w1 := w6.drew.setCell ⟨gN, a, none⟩ (.int .i64 (s.1.length : Int))) (by rfl) rfl (by first | (go_simp; done) | (go_simp; rfl)) ?_
            refine hK.out _ _ trivial (fun hHeld => ?_)
            clear hK K f1 c1
            refine pure_ (i := 9) (N := some 118) (v := ?_) (a' := ?_) #[true, true, true, true, true, true, true, true, true, true, false] rfl rfl (by kernel_rfl) (fun _ _ _ h => h) (Or.inl ⟨by rfl, ?_⟩) ?_ ?_
            rotate_left
            ·intro w'
             go_simp
             with_reducible rfl
            rotate_left
            ·simp only [Act.put, List.setIfInBounds_toArray, List.set_cons_zero, List.set_cons_succ, i64_w, i32_w]
             rfl
            refine last_ (i := 10) (N := none) #[true, true, true, true, true, true, true, true, true, true, true] rfl rfl (by kernel_rfl) (by decide) (fun K hK => ?_)
            have k2 := Keep.set w6 ⟨gN, a, none⟩ (.int .i64 (s.1.length : Int))
            have bO2 := k2.obj g6.bO (off_ne g6.bO (Off.cells g6.bN (by decide)))
            obtain ⟨z, hz2⟩ : ∃ z, s.2.2.getD a ⟨#[]⟩ = z := ⟨_, rfl⟩
            have f2 : w6.frozen? ⟨gO, a, none⟩ = false := blk_frozen g6.bO a
            have c2 := (blk_cell bO2 a).trans (encT_get hv.out.lO hla2)
            rw [hz2] at c2
            have hQ := hQd.set a (s.1.length : Int) (ab b)
            refine skip_ (w1 := (w6.drew.setCell ⟨gN, a, none⟩ (.int .i64 (s.1.length : Int))).setCell ⟨gO, a, none⟩ (.string (ab b))) (by rfl) rfl (by first | (go_simp; done) | (go_simp; rfl)) ?_
            refine hK.out _ _ ?_
            clear hK K
            refine done_ (by kernel_rfl) ?_
            clear k2 bO2 f2 c2 hQd
            generalize (w6.drew.setCell ⟨gN, a, none⟩ (.int .i64 (s.1.length : Int))).setCell ⟨gO, a, none⟩ (.string (ab b)) = w9 at *
            go_wp2_with fail
            go_roundg (3 - (b + 1))
            case measure => have := hkz.out; omega
            case rel => exact ⟨b + 1, (s.1 ++ [t], s.2.1.set a (s.1.length : Int), s.2.2.set a (ab b)), _, _, (by simp), (by go_num), ⟨rfl⟩, by omega, HB3, ⟨hv2⟩, ⟨hQ⟩⟩
      ·have hbb : b = 3 := by omega
       subst hbb
       have HR := Aside0.mk (show runA lv r ([0, 1, 2].drop (a + 1)) s = rt from HB.out)
       clear HB
       go_wp2_with fail
       go_roundg (3 - (a + 1))
       case measure => have := hkq.out; omega
       case rel => exact ⟨a + 1, s, A', c', rfl, (by go_num), ⟨rfl⟩, by omega, HR, hv, ⟨hz⟩⟩
    ·have haa : a = 3 := by omega
     subst haa
     obtain rfl : some s = rt := HR.out
     have HH2 := Aside0.mk (show scr lv rows kf (i + 1) s.1 (nx ++ [s.2.1]) (ot ++ [s.2.2]) = some res from HH.out)
     obtain ⟨hsi, hsk, htk⟩ := hv.out.get hlt
     rw [hk] at hsk htk
     have htk2 := Aside0.mk htk
     have hsk2 := Aside0.mk hsk
     have hka : k < accs.length := by rw [← hcl.len]; exact hkr
     obtain ⟨bx, hbx⟩ : ∃ bx, acF accs k = bx := ⟨_, rfl⟩
     have hbx2 := Aside0.mk hbx
     obtain ⟨am, rfl, _⟩ := at_mark hA1 k hka
     obtain ⟨a8, rfl, _⟩ := li_at hq.m.lst hsi
     have hsi1 : ((i : Int) < (s.1.length : Int)) = True := eq_true (by omega)
     have h0i : (0 ≤ (i : Int)) = True := eq_true (by omega)
     have hka1 : ((k : Int) < (accs.length : Int)) = True := eq_true (by omega)
     have h0k : (0 ≤ (k : Int)) = True := eq_true (by omega)
     have hsn := hv.out.le
     clear HR HH hsk htk hbx
     go_wp2_with fail
     have hB : ∀ W', Below w1.heap.size w1 W' → Kd.R (Kd.int .i64) 3 W' w1.heap.size (fun _ => True) (.slice (some a8) s.1.length c') (ints s.1) → W'.cell? ⟨w.heap.size, 2, none⟩ = some (.slice (some am) accs.length ca) ∧ W'.cell? (a8.add i) = some (.int .i64 (k : Int)) ∧ W'.cell? (am.add k) = some (.bool bx) := by
      intro W' hb hL
      obtain ⟨a9, e8, k8⟩ := li_at hL hsi
      cases e8
      rw [hsk2.out] at k8
      obtain ⟨a6, e9, k9⟩ := at_mark (Kd.C_below hA1 hb) k hka
      cases e9
      rw [← acF_get hka, hbx2.out] at k9
      exact ⟨(blk_cell (blk_below bM hb) 2).trans rfl, k8, k9⟩
     have hSS : ∀ W' vA' bs', Now w1 w1.heap.size (w1.heap.size + 1) gN gO (.slice (some a8) s.1.length c') s vA' bs' vN nx vO ot W' → W'.cell? ⟨w1.heap.size, 0, none⟩ = some vA' ∧ W'.cell? ⟨w.heap.size, 2, none⟩ = some (.slice (some am) accs.length ca) ∧ W'.cell? (a8.add i) = some (.int .i64 (k : Int)) ∧ W'.cell? (am.add k) = some (.bool bx) := fun W' vA' bs' h => ⟨(blk_cell h.m.bX 0).trans rfl, hB W' h.m.bel h.m.lst⟩
     have hQd := hq.step (below_drew1 (Below.refl _ _))
     refine start_ (n := 14) (S := fun w' => w'.cell? ⟨w1.heap.size, 0, none⟩ = some vA ∧ w'.cell? ⟨w.heap.size, 2, none⟩ = some (.slice (some am) accs.length ca) ∧ w'.cell? (a8.add i) = some (.int .i64 (k : Int)) ∧ w'.cell? (am.add k) = some (.bool bx)) (ds := [13]) #[false, false, false, false, false, false, false, false, false, false, false, false, false, false] (by kernel_rfl) rfl rfl (hSS _ _ _ hQd) (fun hHeld => ?_)
     refine pure_ (i := 0) (N := some 119) (v := ?_) (a' := ?_) #[true, false, false, false, false, false, false, false, false, false, false, false, false, false] rfl rfl (by kernel_rfl) (fun _ _ _ h => h) (Or.inl ⟨by rfl, ?_⟩) ?_ ?_
     rotate_left
     ·intro w'
      go_simp
      with_reducible rfl
     rotate_left
     ·simp only [Act.put, List.setIfInBounds_toArray, List.set_cons_zero, List.set_cons_succ, i64_w, i32_w]
      rfl
     refine pure_ (i := 2) (N := some 121) (v := ?_) (a' := ?_) #[true, false, true, false, false, false, false, false, false, false, false, false, false, false] rfl rfl (by kernel_rfl) (fun _ _ _ h => h) (Or.inl ⟨by rfl, ?_⟩) ?_ ?_
     rotate_left
     ·intro w'
      go_simp
      with_reducible rfl
     rotate_left
     ·simp only [Act.put, List.setIfInBounds_toArray, List.set_cons_zero, List.set_cons_succ, i64_w, i32_w]
      rfl
     refine pure_ (i := 4) (N := some 123) (v := ?_) (a' := ?_) #[true, false, true, false, true, false, false, false, false, false, false, false, false, false] rfl rfl (by kernel_rfl) (fun _ _ _ h => h) (Or.inl ⟨by rfl, ?_⟩) ?_ ?_
     rotate_left
     ·intro w'
      go_simp
      with_reducible rfl
     rotate_left
     ·simp only [Act.put, List.setIfInBounds_toArray, List.set_cons_zero, List.set_cons_succ, i64_w, i32_w]
      rfl
     refine pure_ (i := 5) (N := some 124) (v := ?_) (a' := ?_) #[true, false, true, false, true, true, false, false, false, false, false, false, false, false] rfl rfl (by kernel_rfl) (fun _ _ _ h => h) (Or.inl ⟨by rfl, ?_⟩) ?_ ?_
     rotate_left
     ·intro w'
      go_simp
      with_reducible rfl
     rotate_left
     ·simp only [Act.put, List.setIfInBounds_toArray, List.set_cons_zero, List.set_cons_succ, i64_w, i32_w]
      rfl
     refine pure_ (i := 6) (N := some 125) (v := ?_) (a' := ?_) #[true, false, true, false, true, true, true, false, false, false, false, false, false, false] rfl rfl (by kernel_rfl) (fun _ _ _ h => h) (Or.inl ⟨by rfl, ?_⟩) ?_ ?_
     rotate_left
     ·intro w'
      go_simp
      with_reducible rfl
     rotate_left
     ·simp only [Act.put, List.setIfInBounds_toArray, List.set_cons_zero, List.set_cons_succ, i64_w, i32_w]
      rfl
     refine take_ (i := 1) (N := some 120) (v := ?_) (a' := ?_) #[true, true, true, false, true, true, true, false, false, false, false, false, false, false] rfl rfl (by kernel_rfl) (fun _ _ _ h => h) (Or.inl ⟨by rfl, ?_⟩) hHeld ?_ ?_
     rotate_left
     ·rintro w' ⟨s1, s2, s3, s4⟩
      go_simp
      with_reducible rfl
     rotate_left
     ·simp only [Act.put, List.setIfInBounds_toArray, List.set_cons_zero, List.set_cons_succ, i64_w, i32_w]
      rfl
     refine take_ (i := 3) (N := some 122) (v := ?_) (a' := ?_) #[true, true, true, true, true, true, true, false, false, false, false, false, false, false] rfl rfl (by kernel_rfl) (fun _ _ _ h => h) (Or.inl ⟨by rfl, ?_⟩) hHeld ?_ ?_
     rotate_left
     ·rintro w' ⟨s1, s2, s3, s4⟩
      go_simp
      with_reducible rfl
     rotate_left
     ·simp only [Act.put, List.setIfInBounds_toArray, List.set_cons_zero, List.set_cons_succ, i64_w, i32_w]
      rfl
     refine take_ (i := 7) (N := some 126) (v := ?_) (a' := ?_) #[true, true, true, true, true, true, true, true, false, false, false, false, false, false] rfl rfl (by kernel_rfl) (fun _ _ _ h => h) (Or.inl ⟨by rfl, ?_⟩) hHeld ?_ ?_
     rotate_left
     ·rintro w' ⟨s1, s2, s3, s4⟩
      go_simp
      with_reducible rfl
     rotate_left
     ·simp only [Act.put, List.setIfInBounds_toArray, List.set_cons_zero, List.set_cons_succ, i64_w, i32_w]
      rfl
     refine pure_ (i := 8) (N := some 127) (v := ?_) (a' := ?_) #[true, true, true, true, true, true, true, true, true, false, false, false, false, false] rfl rfl (by kernel_rfl) (fun _ _ _ h => h) (Or.inl ⟨by rfl, ?_⟩) ?_ ?_
     rotate_left
     ·intro w'
      go_simp
      with_reducible rfl
     rotate_left
     ·simp only [Act.put, List.setIfInBounds_toArray, List.set_cons_zero, List.set_cons_succ, i64_w, i32_w]
      rfl
     refine take_ (i := 9) (N := some 128) (v := ?_) (a' := ?_) #[true, true, true, true, true, true, true, true, true, true, false, false, false, false] rfl rfl (by kernel_rfl) (fun _ _ _ h => h) (Or.inl ⟨by rfl, ?_⟩) hHeld ?_ ?_
     rotate_left
     ·rintro w' ⟨s1, s2, s3, s4⟩
      go_simp
      with_reducible rfl
     rotate_left
     ·simp only [Act.put, List.setIfInBounds_toArray, List.set_cons_zero, List.set_cons_succ, i64_w, i32_w]
      rfl
     refine one_ (i := 10) (N := some 129) #[true, true, true, true, true, true, true, true, true, true, true, false, false, false] rfl rfl (by kernel_rfl) (by decide) (fun K hK => ?_)
     refine value_ (w1 := wr.drew.alloc (.cells #[.bool bx] 4)) (v := .slice (some ⟨wr.drew.heap.size, 0, none⟩) 1 1) (by rfl) rfl (by first | (go_simp; done) | (go_simp; rfl)) ?_
     have hQ5 := hQd.step (below_alloc (Below.refl _ _) (.cells #[.bool bx] 4))
     refine hK.out _ _ (hSS _ _ _ hQ5) (fun hHeld => ?_)
     clear hK K
     refine norm_ (a' := ?_) ?_ ?_
     rotate_left
     ·show Act.put _ (some 129) _ = _
      simp only [Act.put, List.setIfInBounds_toArray, List.set_cons_zero, List.set_cons_succ, i64_w, i32_w]
      rfl
     refine one_ (i := 11) (N := some 130) #[true, true, true, true, true, true, true, true, true, true, true, true, false, false] rfl rfl (by kernel_rfl) (by decide) (fun K hK => ?_)
     refine Kd.R_append_step Kd.bool (w0 := w1) w1.heap.size (by rfl) (.tmp 120) (.tmp 129) 22 4 (.bool false) 1 rfl Tryd.underlying22 GwI.info_bool rfl (by decide) (by decide) vA ((li.take i).map (acF accs)) bx [.bool bx] (fun _ => True) (fun _ => False) rfl rfl rfl (fun _ h => h.elim) (fun _ _ => trivial) hQd.m.acc hQd.m.bel (Below.size hQd.m.bel) (by simp <;> omega) ?_
     intro v6 w6 hR6 hb6 hg6 hat6
     obtain ⟨A6, c6, hv6⟩ := Kd.R_slice hR6
     subst hv6
     obtain ⟨b26, hQ6⟩ := hQd.mark hg6 hR6 hb6
     refine hK.out _ _ ⟨(blk_cell b26 0).trans rfl, hB _ hb6 (R_off hQd.m.lst (Keep.grown hg6) (Off.row hQd.m.acc (by decide)))⟩ (fun hHeld => ?_)
     clear hK K
     refine norm_ (a' := ?_) ?_ ?_
     rotate_left
     ·show Act.put _ (some 130) _ = _
      simp only [Act.put, List.setIfInBounds_toArray, List.set_cons_zero, List.set_cons_succ, i64_w, i32_w]
      rfl
     refine pure_ (i := 12) (N := some 131) (v := ?_) (a' := ?_) #[true, true, true, true, true, true, true, true, true, true, true, true, true, false] rfl rfl (by kernel_rfl) (fun _ _ _ h => h) (Or.inl ⟨by rfl, ?_⟩) ?_ ?_
     rotate_left
     ·intro w'
      go_simp
      with_reducible rfl
     rotate_left
     ·simp only [Act.put, List.setIfInBounds_toArray, List.set_cons_zero, List.set_cons_succ, i64_w, i32_w]
      rfl
     refine last_ (i := 13) (N := none) #[true, true, true, true, true, true, true, true, true, true, true, true, true, true] rfl rfl (by kernel_rfl) (by decide) (fun K hK => ?_)
     have hf6 : w6.frozen? ⟨w1.heap.size, 0, none⟩ = false := blk_frozen b26 0
     have hc6 : w6.cell? ⟨w1.heap.size, 0, none⟩ = some vA := (blk_cell b26 0).trans rfl
     refine skip_ (w1 := w6.setCell ⟨w1.heap.size, 0, none⟩ (.slice A6 (((li.take i).map (acF accs)) ++ [bx]).length c6)) (by rfl) rfl (by first | (go_simp; done) | (go_simp; rfl)) ?_
     refine hK.out _ _ ?_
     clear hK K
     refine done_ (by kernel_rfl) ?_
     clear hSS hB hQd hQ5 hf6 hc6 b26 hR6 hb6 hg6 hHeld hq
     generalize w6.setCell ⟨w1.heap.size, 0, none⟩ (.slice A6 (((li.take i).map (acF accs)) ++ [bx]).length c6) = w7 at *
     obtain ⟨n0, n1, hN2⟩ := two_list hv.out.lN
     obtain ⟨t0, t1, hO2⟩ := two_list hv.out.lO
     have hgN7 := blk_lt hQ6.bN
     have hgO7 := blk_lt hQ6.bO
     have bN7 := hQ6.bN
     rw [hN2] at bN7
     have k0 : w7.cell? ⟨gN, 0, none⟩ = some (.int .i64 n0) := (blk_cell bN7 0).trans rfl
     have k1 : w7.cell? ⟨gN, 1, none⟩ = some (.int .i64 n1) := (blk_cell bN7 1).trans rfl
     have c71 : w7.cell? ⟨w1.heap.size, 1, none⟩ = some vN := (blk_cell hQ6.m.bX 1).trans rfl
     have hnl2 : nx.length ≤ 1000000 := by have := hnl.out; omega
     have hol2 : ot.length ≤ 1000000 := by have := hol.out; omega
     clear bN7
     go_wp2_with (first
     | ((with_reducible refine gate_builtin (b := .append) (xs := #[.tmp 133, .tmp 135]) rfl ?_); go_loud (
       at_builtin
       refine R_append' Pair (w0 := w1) w1.heap.size rfl (.tmp 133) (.tmp 135) 33 89 (.agg #[.int .i64 0, .int .i64 0]) 16 rfl Tryd.underlying33 info_pair rfl (by decide) (by decide) vN nx [n0, n1] [.int .i64 n0, .int .i64 n1] (fun k => some k ≠ some gN) (fun _ => False) _ (by simp) rfl rfl (Kd.arr_of_cells rfl) (fun _ h => h.elim) (fun k hk e => by have := Option.some.inj e; omega) hQ6.m.nxt hQ6.m.bel (Below.size hQ6.m.bel) (by omega) ?_
       intro v8 w8 hR8 hb8 hg8 hat8
       obtain ⟨A8, c8, hv8⟩ := Kd.R_slice hR8
       rw [List.length_append, List.length_singleton] at hv8
       subst hv8
       obtain ⟨b28, m8, o8⟩ := hQ6.addN hg8 hR8 hb8
       rw [hO2] at o8
       have c81 : w8.cell? ⟨w1.heap.size, 1, none⟩ = some vN := (blk_cell b28 1).trans rfl
       have f81 : w8.frozen? ⟨w1.heap.size, 1, none⟩ = false := blk_frozen b28 1
       have c82 : w8.cell? ⟨w1.heap.size, 2, none⟩ = some vO := (blk_cell b28 2).trans rfl
       have j0 : (w8.setCell ⟨w1.heap.size, 1, none⟩ (.slice A8 (nx.length + 1) c8)).cell? ⟨gO, 0, none⟩ = some (.string t0) := (blk_cell o8 0).trans rfl
       have j1 : (w8.setCell ⟨w1.heap.size, 1, none⟩ (.slice A8 (nx.length + 1) c8)).cell? ⟨gO, 1, none⟩ = some (.string t1) := (blk_cell o8 1).trans rfl
       have hg8O := blk_lt o8))
     | ((with_reducible refine gate_builtin (b := .append) (xs := #[.tmp 139, .tmp 141]) rfl ?_); go_loud (
       at_builtin
       refine R_append' Text2 (w0 := w1) w1.heap.size rfl (.tmp 139) (.tmp 141) 34 90 (.agg #[.string ⟨#[]⟩, .string ⟨#[]⟩]) 32 rfl Tryd.underlying34 info_text2 rfl (by decide) (by decide) vO ot [t0, t1] [.string t0, .string t1] (fun k => some k ≠ some gO) (fun _ => False) _ (by simp) rfl rfl (Kd.arr_of_cells rfl) (fun _ h => h.elim) (fun k hk e => by have := Option.some.inj e; omega) m8.out m8.bel (Below.size m8.bel) (by omega) ?_
       intro v9 w9 hR9 hb9 hg9 hat9
       obtain ⟨A9', c9', hv9⟩ := Kd.R_slice hR9
       rw [List.length_append, List.length_singleton] at hv9
       subst hv9
       obtain ⟨b29, m9⟩ := m8.addO hg9 hR9 hb9
       have c92 : w9.cell? ⟨w1.heap.size, 2, none⟩ = some vO := (blk_cell b29 2).trans rfl
       have f92 : w9.frozen? ⟨w1.heap.size, 2, none⟩ = false := blk_frozen b29 2)))
     go_roundg kf
     case measure => omega
     case rel =>
      have e1 : (s.1.take (i + 1)).map (acF accs) = (li.take i).map (acF accs) ++ [bx] := by
       rw [htk2.out, List.map_append, ← hbx2.out]
       rfl
      have h9 := m9.done
      exact ⟨i + 1, s.1, nx ++ [[n0, n1]], ot ++ [[t0, t1]], _, _, _, _, _, rfl, (by go_num), ⟨by rw [← hN2, ← hO2]; exact HH2.out⟩, ⟨by have := hnl.out; simp; omega⟩, ⟨by have := hol.out; simp; omega⟩, by omega, ⟨hv.out.lt⟩, ⟨hv.out.nd⟩, ⟨by rw [e1]; exact h9⟩⟩
  ·rw [dif_neg hlt] at H1
   have hres2 : some (li, nx, ot) = res := Option.some.inj H1
   subst hres2
   have hii : i = li.length := by omega
   subst hii
   clear H H1
   rw [List.take_of_length_le (Nat.le_refl _)] at h
   have hlt1 : ((li.length : Int) < (li.length : Int)) = False := eq_false (by omega)
   have d0 : wo.cell? ⟨w1.heap.size, 0, none⟩ = some vA := (blk_cell h.bX 0).trans rfl
   have d1 : wo.cell? ⟨w1.heap.size, 1, none⟩ = some vN := (blk_cell h.bX 1).trans rfl
   have d2 : wo.cell? ⟨w1.heap.size, 2, none⟩ = some vO := (blk_cell h.bX 2).trans rfl
   have b := blk_below bR h.bel
   have e0 : wo.cell? ⟨w.heap.size + 1, 0, none⟩ = some (.slice none 0 0) := (blk_cell b 0).trans rfl
   have e1 : wo.cell? ⟨w.heap.size + 1, 1, none⟩ = some (.slice none 0 0) := (blk_cell b 1).trans rfl
   have e2 : wo.cell? ⟨w.heap.size + 1, 2, none⟩ = some (.slice none 0 0) := (blk_cell b 2).trans rfl
   have f0 : wo.frozen? ⟨w.heap.size + 1, 0, none⟩ = false := blk_frozen b 0
   have f1 : wo.frozen? ⟨w.heap.size + 1, 1, none⟩ = false := blk_frozen b 1
   have f2 : wo.frozen? ⟨w.heap.size + 1, 2, none⟩ = false := blk_frozen b 2
   have hB := below_step hB1 h.bel
   have hlow := Below.size hB1
   obtain ⟨AX, cX, hvA⟩ := Kd.R_slice h.acc
   obtain ⟨BX, dX, hvN⟩ := Kd.R_slice h.nxt
   obtain ⟨CX, eX, hvO⟩ := Kd.R_slice h.out
   subst hvA
   subst hvN
   subst hvO
   go_wp2_with fail
   clear d0 d1 d2 e0 e1 e2 f0 f1 f2
   have b1 := blk_put b 0 (.slice AX (li.map (acF accs)).length cX) rfl
   have b2 := blk_put b1 1 (.slice BX nx.length dX) rfl
   have b3 := blk_put b2 2 (.slice CX ot.length eX) rfl
   simp only [List.length_map] at b3 ⊢
   refine bodyPost_ret (results_ct rfl _ _ (w.heap.size + 1) 40 #[.slice AX li.length cX, .slice BX nx.length dX, .slice CX ot.length eX] (0, 0) _ rfl b3 Tryd.underlying40 rfl (by kernel_rfl)) rfl ⟨_, _, _, rfl, ?_, ?_, ?_, ?_⟩
   ·have hA2 := Kd.R_set (Kd.R_set (Kd.R_set (Kd.R_lower h.acc hlow) b (by decide) 0 (.slice AX (li.map (acF accs)).length cX)) b1 (by decide) 1 (.slice BX nx.length dX)) b2 (by decide) 2 (.slice CX ot.length eX)
    simp only [List.length_map] at hA2
    exact hA2
   ·have hA2 := Kd.R_mono (Kd.R_set (Kd.R_set (Kd.R_set (Kd.R_lower h.nxt hlow) b (by decide) 0 (.slice AX (li.map (acF accs)).length cX)) b1 (by decide) 1 (.slice BX nx.length dX)) b2 (by decide) 2 (.slice CX ot.length eX)) (ok' := fun _ => True) (fun _ _ => trivial)
    simp only [List.length_map] at hA2
    exact hA2
   ·have hA2 := Kd.R_mono (Kd.R_set (Kd.R_set (Kd.R_set (Kd.R_lower h.out hlow) b (by decide) 0 (.slice AX (li.map (acF accs)).length cX)) b1 (by decide) 1 (.slice BX nx.length dX)) b2 (by decide) 2 (.slice CX ot.length eX)) (ok' := fun _ => True) (fun _ _ => trivial)
    simp only [List.length_map] at hA2
    exact hA2
   ·exact ((hB.setCell (by simp) _).setCell (by simp) _).setCell (by simp) _
end Go.Proofs.YtbamnonamdpooaaDoor.Sb
namespace Go.Proofs.YtbamnonamdpooaaDoor.Sp
set_option linter.unusedVariables false
set_option linter.unusedSimpArgs false
open Go.RowKit Go.Proofs.YtbamnonamdpooaaDoorW.PrintWords Go.Proofs.YtbamnonamdpooaaDoorW.PrintLast Go.Proofs.YtbamnonamdpooaaDoorW.PrintMore Go.Proofs.YtbamnonamdpooaaDoor.Mp Go.Proofs.YtbamnonamdpooaaDoor.Kp Go.Proofs.YtbamnonamdpooaaDoor.Mg Go.Proofs.YtbamnonamdpooaaDoor.Tdy Go.Proofs.YtbamnonamdpooaaDoor.Rg Go.Proofs.YtbamnonamdpooaaDoor.Tw Go.Proofs.YtbamnonamdpooaaDoor.Sb
/-- The places from x on get their numbers. -/
def numFrom : Nat → List Nat × List Int → List Nat × List Int
 | 0, q => numF 1 (numF 0 q)
 | 1, q => numF 1 q
 | _, q => q
theorem numFrom_step {x : Nat} (hx : x < 2) (q : List Nat × List Int) : numFrom x q = numFrom (x + 1) (numF x q) := by
 match x, hx with
 | 0, _ => rfl
 | 1, _ => rfl
/-- What holds while places get their numbers. -/
structure NumOk (n : Nat) (li : List Nat) (x : Nat) (tab : List Int) (q : List Nat × List Int) : Prop where
 tab : Tab n q.1 tab
 pre : ∃ m, q.1 = li ++ m
 len : q.2.length = 2
 st : ∀ j, x ≤ j → j < 2 → q.2.getD j (-1) = -1 ∨ ∃ t : Nat, t < n ∧ q.2.getD j (-1) = (t : Int)
theorem numF_hit {x t j : Nat} {q : List Nat × List Int} (h : q.2.getD x (-1) = (t : Int)) (hf : find id t q.1 = some j) : numF x q = (q.1, q.2.set x (j : Int)) := by
 unfold numF
 rw [h, if_neg (by omega), Int.toNat_natCast, hf]
theorem numF_miss {x t : Nat} {q : List Nat × List Int} (h : q.2.getD x (-1) = (t : Int)) (hf : find id t q.1 = none) : numF x q = (q.1 ++ [t], q.2.set x (q.1.length : Int)) := by
 unfold numF
 rw [h, if_neg (by omega), Int.toNat_natCast, hf]
theorem getD_set_ne {l : List Int} {i j : Nat} {v d : Int} (h : i ≠ j) : (l.set i v).getD j d = l.getD j d := by
 simp [List.getD_eq_getElem?_getD, List.getElem?_set, h]
theorem NumOk.set {n : Nat} {li : List Nat} {x : Nat} {tab : List Int} {q : List Nat × List Int} (h : NumOk n li x tab q) (j : Int) : NumOk n li (x + 1) tab (q.1, q.2.set x j) :=
 ⟨h.tab, h.pre, by simp [h.len], fun k h1 h2 => by rw [getD_set_ne (by omega)]; exact h.st k (by omega) h2⟩
theorem NumOk.more {n : Nat} {li : List Nat} {x : Nat} {tab : List Int} {q : List Nat × List Int} (h : NumOk n li x tab q) {t : Nat} (ht : t < n) (hn : t ∉ q.1) (j : Int) : NumOk n li (x + 1) (tab.set t (q.1.length : Int)) (q.1 ++ [t], q.2.set x j) :=
 ⟨h.tab.push ht hn, by obtain ⟨m, hm⟩ := h.pre; exact ⟨m ++ [t], by rw [hm, List.append_assoc]⟩, by simp [h.len], fun k h1 h2 => by rw [getD_set_ne (by omega)]; exact h.st k (by omega) h2⟩
theorem tab_at {n : Nat} {li : List Nat} {tab : List Int} (h : Tab n li tab) {t : Nat} (ht : t < n) : (find id t li = none ∧ tab[t]? = some (-1) ∧ t ∉ li) ∨ ∃ j : Nat, find id t li = some j ∧ tab[t]? = some (j : Int) ∧ j < li.length := by
 have h2 : Tab n (li.map id) tab := by rw [List.map_id]; exact h
 have := tab_find h2 (t := t) ht
 rwa [List.map_id] at this
set_option maxHeartbeats 1000000 in
theorem refused (w : World) : Calls Tryd.prog 111 #[] w fun e w' => e = .returned (.tuple #[.agg #[.int .i64 (-1), .int .i64 (-1)], .agg #[.string ⟨#[]⟩, .string ⟨#[]⟩]]) ∧ Below w.heap.size w w' := by
 go_enter Tryd.func111, Tryd.ntmps111
 go_wp2_with fail
 have b1 := blk_alloc (blk_new w (.cells #[.int .i64 (-1), .int .i64 (-1)] 89)) (.cells #[.string ⟨#[]⟩, .string ⟨#[]⟩] 90)
 have b2 := blk_at (w.alloc (.cells #[.int .i64 (-1), .int .i64 (-1)] 89)) (.cells #[.string ⟨#[]⟩, .string ⟨#[]⟩] 90) (w.heap.size + 1) (by simp)
 refine bodyPost_ret (results_cc rfl _ _ w.heap.size (w.heap.size + 1) 89 90 #[.int .i64 (-1), .int .i64 (-1)] #[.string ⟨#[]⟩, .string ⟨#[]⟩] (0, 0) (0, 0) _ _ rfl b1 Tryd.underlying89 rfl (by kernel_rfl) rfl b2 Tryd.underlying90 rfl (by kernel_rfl)) rfl ?_
 exact ⟨rfl, below_alloc (below_alloc (Below.refl _ _) _) _⟩
set_option maxHeartbeats 8000000 in
set_option maxRecDepth 100000 in
theorem scribe (tapes : Int) (start : Nat) (accs : List Bool) (rows : List (List Nat)) (hcl : Closed 8 rows accs) (hn : rows.length ≤ 1000000) (hst : start < rows.length)
  (lv : Nat → Bool) (w : World) (gp : Nat) (AA : Option Addr) (ca : Nat) (AN : Option Addr) (cn : Nat) (hP : w.heap[gp]? = some (.cells #[.int .i64 tapes, .int .i64 start, .slice AA accs.length ca, .slice AN rows.length cn] 29 (0, 0)))
  (hA : Kd.C Kd.bool w AA accs.length accs) (hN : Kd.C (Kd.slice 2 (Kd.int .i64)) w AN rows.length (rows.map ints)) (hca : accs.length ≤ ca) (hcn : rows.length ≤ cn)
  (hfar : ∀ W, Below w.heap.size w W → Calls Tryd.prog 110 #[.pointer (some ⟨gp, 0, none⟩)] W fun e W' => ∃ v, e = .returned v ∧ Kd.R Kd.bool 4 W' W.heap.size (fun _ => True) v ((List.range rows.length).map lv) ∧ Below W.heap.size W W')
  (hwide : ∀ W, Calls Tryd.prog 60 #[.int .i64 2] W fun e W' => e = .returned (.int .i64 8) ∧ Below W.heap.size W W')
  (hdig0 : ∀ W (c : Nat), c < 8 → Calls Tryd.prog 61 #[.int .i64 (c : Int), .int .i64 0] W fun e W' => e = .returned (.int .i64 ((c % 3 : Nat) : Int)) ∧ Below W.heap.size W W')
  (hdig1 : ∀ W (c : Nat), c < 8 → Calls Tryd.prog 61 #[.int .i64 (c : Int), .int .i64 1] W fun e W' => e = .returned (.int .i64 ((c / 3 : Nat) : Int)) ∧ Below W.heap.size W W')
  (hlive : lv start = true) (f : Nat) (res : Option Sc) (hres : scr lv rows f 0 [start] [] [] = some res) :
  Calls Tryd.prog 49 #[.pointer (some ⟨gp, 0, none⟩)] w fun e w' => ∃ vA vN vO, e = .returned (.tuple #[.agg #[vA, vN, vO], .bool (outcome accs res).2.2.2]) ∧
   Kd.R Kd.bool 4 w' w.heap.size (fun _ => True) vA (outcome accs res).1 ∧ Kd.R Pair 89 w' w.heap.size (fun _ => True) vN (outcome accs res).2.1 ∧ Kd.R Text2 90 w' w.heap.size (fun _ => True) vO (outcome accs res).2.2.1 ∧ Below w.heap.size w w' := by
 have hgp := blk_lt hP
 go_enter Tryd.func49, Tryd.ntmps49
 go_wp2_with (first
  | (go_at_call 110; go_loud (
    have hB0 := below_alloc (Below.refl w.heap.size w) (.cells #[.slice none 0 0, .slice none 0 0, .slice none 0 0] 40)
    with_reducible refine (hfar _ hB0).mono ?_
    rintro e w1 ⟨vF, rfl, rF, hb1⟩
    have bR := blk_below (blk_new w (.cells #[.slice none 0 0, .slice none 0 0, .slice none 0 0] 40)) hb1
    have bP := blk_below (blk_alloc hP (.cells #[.slice none 0 0, .slice none 0 0, .slice none 0 0] 40)) hb1
    have hB1 := below_step hB0 hb1
    obtain ⟨AF, cF, hvF⟩ := Kd.R_slice rF
    subst hvF
    rw [List.length_map, List.length_range] at rF
    obtain ⟨hq1, hq2, hCF⟩ := Kd.R_reads' rF
    clear hq1
    rw [List.length_map, List.length_range] at hCF ⊢
    obtain ⟨wA, hWA⟩ : ∃ wA : World, wA = w1.alloc (.cells #[.slice none 0 0, .slice none 0 0, .slice none 0 0] 40) := ⟨_, rfl⟩
    have hbA : Below w1.heap.size w1 wA := by rw [hWA]; exact below_alloc (Below.refl _ _) _
    have bX : wA.heap[w1.heap.size]? = some (.cells #[.slice none 0 0, .slice none 0 0, .slice none 0 0] 40 (0, 0)) := by rw [hWA]; exact blk_new _ _
    have hCA := Kd.C_below hCF hbA
    obtain ⟨adF, rfl, kF⟩ := at_mark hCA start (by rw [List.length_map, List.length_range]; exact hst)
    rw [List.getElem_map, List.getElem_range, hlive] at kF
    have m1 : wA.cell? ⟨gp, 1, none⟩ = some (.int .i64 (start : Int)) := (blk_cell (blk_below bP hbA) 1).trans rfl
    have hst2 : ((start : Int) < (rows.length : Int)) = True := eq_true (by omega)
    have h0s : (0 ≤ (start : Int)) = True := eq_true (by omega)
    have m2 : (wA.alloc (.cells #[.int .i64 (start : Int)] 2)).cell? ⟨gp, 2, none⟩ = some (.slice AA accs.length ca) := (blk_cell (blk_alloc (blk_below bP hbA) _) 2).trans rfl
    subst hWA))
  | ((with_reducible refine gate_dst (N := 51) rfl ?_); go_loud (
    have hb4 := below_alloc hbA (.cells #[.int .i64 (start : Int)] 2)
    refine Kd.R_make (Kd.int .i64) (w0 := w1) w1.heap.size 2 rfl (N := 51) rfl 86 _ _ rfl (accs.length : Int) rfl rfl Tryd.underlying86 (.int .i64 0) 8 info_long rfl (by decide) (by decide) (0 : Int) (ok := fun _ => True) (okp := fun _ => False) rfl (fun _ h => h.elim) trivial (by omega) (by have := hcl.len; simp; omega) hb4 (Below.size hb4) ?_
    intro v2 w2 hR2 hb2 hg2 hn2
    simp only [Int.toNat_natCast] at hR2
    obtain ⟨gT, cT, hv2, hgT, hgTl, _⟩ := Kd.R_form hR2 (by have := hcl.len; simp; omega)
    subst hv2
    rw [List.length_replicate] at hR2
    have hK := Keep.grown hg2
    have hlen := hcl.len
    obtain ⟨bT, hbT, hbTl⟩ := hn2
    have hbT2 : gT = bT := Option.some.inj hbT
    subst hbT2
    simp at hbTl
    have h4 : MemS w1 w1.heap.size gT accs.length cT none none (List.replicate accs.length 0) (.slice (some ⟨w1.heap.size + 1, 0, none⟩) 1 1) [start] (.slice none 0 0) [] (.slice none 0 0) [] (.slice none 0 0) [] w2 := by
     have hL := R_one (Kd.int .i64) 2 (w1.alloc (.cells #[.slice none 0 0, .slice none 0 0, .slice none 0 0] 40)) w1.heap.size (by simp) (ok := fun _ => True) (okp := fun _ => False) (cs := [.int .i64 (start : Int)]) rfl (fun _ h => h.elim) trivial
     have z1 : (w1.alloc (.cells #[.slice none 0 0, .slice none 0 0, .slice none 0 0] 40)).heap.size = w1.heap.size + 1 := by simp
     rw [z1] at hL
     exact ⟨hK.obj (blk_alloc bX _) (by simp), hR2, SR.move hL hK (by simp), Kd.R_nil _ _ _ _ _, Kd.R_nil _ _ _ _ _, Kd.R_nil _ _ _ _ _, Nat.le_refl _, (fun e => by have h9 : gT = w1.heap.size + 1 := Option.some.inj e; omega), hb2⟩
    have m3 : w2.cell? ⟨gp, 1, none⟩ = some (.int .i64 (start : Int)) := (blk_cell (blk_below bP hb2) 1).trans rfl
    have hsa : start < accs.length := by omega
    have hst3 : ((start : Int) < (accs.length : Int)) = True := eq_true (by omega)
    have k4 := sr_at hR2 (i := start) (by rw [List.length_replicate]; exact hsa)
    rw [List.getElem_replicate] at k4
    obtain ⟨_, cells, hcT⟩ := row_blk hR2 (by rw [List.length_replicate]; omega)
    have f4 : w2.frozen? ⟨gT, start, none⟩ = false := blk_frozen hcT start
    have h5 := h4.set hgT start 1
    rw [← hlen] at h5
    clear hlen)))
 have ht0 : (List.replicate rows.length (0 : Int)).set start 1 = ((List.replicate rows.length (-1 : Int)).set start 0).map (· + 1) := by rw [List.map_set, List.map_replicate]; rfl
 rw [ht0] at h5
 have hT0 := Aside0.mk (tab_start hst)
 have hA1 := Kd.C_below hA hB1
 have hN1 := Kd.C_below hN hB1
 have hdg0 := Aside0.mk hdig0
 have hdg1 := Aside0.mk hdig1
 clear hdig0 hdig1 hfar hA hN hB0 hb1 ht0 hcT f4 k4 hst3 m3 h4 hbT hK hg2 hb2 hR2
 generalize w2.setCell ⟨gT, start, none⟩ (.int .i64 1) = w3 at *
 go_loopg [8, 10] f (fun kf v8 v10 wr => ∃ (i : Nat) (li : List Nat) (tab : List Int) (nx : List (List Int)) (ot : List (List ByteArray)) (AL : Option Addr) (cL : Nat) (vA vN vO : Value), v8 = .slice AL li.length cL ∧ v10 = .int .i64 (i : Int) ∧ Aside0 (scr lv rows kf i li nx ot = some res) ∧ Aside0 (nx.length = i) ∧ Aside0 (ot.length = i) ∧ i ≤ li.length ∧ Aside0 (Tab rows.length li tab) ∧
  Aside0 (MemS w1 w1.heap.size gT rows.length cT none none (tab.map (· + 1)) (.slice AL li.length cL) li vA ((li.take i).map (acF accs)) vN nx vO ot wr))
 case atStart => exact ⟨0, [start], _, [], [], _, _, _, _, _, rfl, rfl, ⟨hres⟩, ⟨rfl⟩, ⟨rfl⟩, Nat.zero_le _, hT0, ⟨h5⟩⟩
 case round =>
  clear h5 hT0
  obtain ⟨wo, rfl⟩ : ∃ wo : World, wo = wr := ⟨_, rfl⟩
  obtain ⟨i, li, tab, nx, ot, AL, cL, vA, vN, vO, rfl, rfl, H, hnl, hol, hil, hTab, h⟩ := hrel
  replace h := h.out
  cases gk with
  | zero => exact absurd H.out (by simp [scr])
  | succ kf =>
  have H1 := H.out
  unfold scr at H1
  by_cases hlt : i < li.length
  ·rw [dif_pos hlt] at H1
   have HH := Aside0.mk H1
   clear H1 H
   have hlt1 : ((i : Int) < (li.length : Int)) = True := eq_true (by omega)
   have h0i : (0 ≤ (i : Int)) = True := eq_true (by omega)
   obtain ⟨a7, rfl, e7⟩ := li_at h.lst (i := i) hlt
   obtain ⟨k, hk⟩ : ∃ k, li[i] = k := ⟨_, rfl⟩
   rw [hk] at e7
   have hkr : k < rows.length := by rw [← hk]; exact hTab.out.lt _ (List.getElem_mem hlt)
   go_wp2_with (go_at_call 111; go_loud (
    with_reducible refine (refused _).mono ?_
    rintro e w4 ⟨rfl, hb4⟩
    have h4 := h.step hb4))
   have h0 : NowS w1 w1.heap.size gT rows.length cT w4.heap.size (w4.heap.size + 1) (tab.map (· + 1)) (.slice (some a7) li.length cL) (li, [-1, -1], [⟨#[]⟩, ⟨#[]⟩]) vA ((li.take i).map (acF accs)) vN nx vO ot ((w4.alloc (.cells #[.int .i64 (-1), .int .i64 (-1)] 89)).alloc (.cells #[.string ⟨#[]⟩, .string ⟨#[]⟩] 90)) :=
    ⟨(h4.begin (Nat.le_refl _) (by omega)).step (below_alloc (below_alloc (Below.refl _ _) _) _), blk_alloc (blk_new _ _) _, blk_at _ _ _ (by simp), Below.size h4.bel, by have := Below.size h4.bel; omega⟩
   generalize (w4.alloc (.cells #[.int .i64 (-1), .int .i64 (-1)] 89)).alloc (.cells #[.string ⟨#[]⟩, .string ⟨#[]⟩] 90) = wn at *
   obtain ⟨gO, hgO⟩ : ∃ g, w4.heap.size + 1 = g := ⟨_, rfl⟩
   rw [hgO] at h0
   simp only [hgO]
   clear h h4 hgO hb4 e7 hlt1 h0i
   generalize w4.heap.size = gN at *
   obtain ⟨r, hr⟩ : ∃ r, rows.getD k [] = r := ⟨_, rfl⟩
   have hrk : rows[k] = r := by rw [← hr]; simp [List.getD_eq_getElem?_getD, hkr]
   have hr8 : r.length = 8 := by rw [← hrk]; exact hcl.wide _ (List.getElem_mem hkr)
   have hrl : ∀ q ∈ r, q < rows.length := by rw [← hrk]; exact hcl.lt _ (List.getElem_mem hkr)
   have H2 := HH.out
   rw [hk, hr, ← rowS_eq lv hr8 li] at H2
   unfold rowS at H2
   obtain ⟨cr, hcr⟩ : ∃ cr, colsF lv r [0, 1, 2, 3, 4, 5, 6, 7] ([-1, -1], [⟨#[]⟩, ⟨#[]⟩]) = cr := ⟨_, rfl⟩
   rw [hcr] at H2
   replace HH := Aside0.mk H2
   have HR0 := Aside0.mk hcr
   clear H2 hcr
   obtain ⟨a2, rfl, A9, c9, e9, hl9, hC9⟩ := at_row hN1 k (by rw [List.length_map]; exact hkr)
   rw [List.getElem_map, hrk, ints_length, hr8] at e9 hl9
   rw [List.getElem_map, hrk, ints_length, hr8] at hC9
   have hkr2 : ((k : Int) < (rows.length : Int)) = True := eq_true (by omega)
   have h0k : (0 ≤ (k : Int)) = True := eq_true (by omega)
   go_loopg [14] 8 (fun kq v14 wq => ∃ (c : Nat) (p : Ar), v14 = .int .i64 (c : Int) ∧ Aside0 (kq = 8 - c) ∧ c ≤ 8 ∧ Aside0 (colsF lv r ([0, 1, 2, 3, 4, 5, 6, 7].drop c) p = cr) ∧ Aside0 (ArOk rows.length p) ∧
    Aside0 (NowS w1 w1.heap.size gT rows.length cT gN gO (tab.map (· + 1)) (.slice (some a7) li.length cL) (li, p.1, p.2) vA ((li.take i).map (acF accs)) vN nx vO ot wq))
   case atStart => exact ⟨0, ([-1, -1], [⟨#[]⟩, ⟨#[]⟩]), rfl, ⟨rfl⟩, by omega, HR0, ⟨ArOk.start _⟩, ⟨h0⟩⟩
   case round =>
    clear h0 HR0
    obtain ⟨c, p, rfl, hkq, hc8, HR, hv, hq⟩ := hrel
    replace hq := hq.out
    by_cases hlc : c < 8
    ·have HR1 := HR.out
     rw [colsF_step hlc] at HR1
     have HB := Aside0.mk HR1
     clear HR1 HR
     have hc8 : c < r.length := by omega
     obtain ⟨ad9, h9, et⟩ := at_num hC9 c (by rw [ints_length]; exact hc8)
     subst h9
     rw [ints_get r _ _ hc8] at et
     obtain ⟨t, ht⟩ : ∃ t, r[c] = t := ⟨_, rfl⟩
     have htl : t < rows.length := by rw [← ht]; exact hrl _ (List.getElem_mem hc8)
     rw [ht] at et
     have htD : r.getD c 0 = t := by rw [← ht]; simp [List.getD_eq_getElem?_getD, hc8]
     clear ht
     obtain ⟨adF2, eF, ef⟩ := at_mark hCF t (by rw [List.length_map, List.length_range]; exact htl)
     cases eF
     rw [List.getElem_map, List.getElem_range] at ef
     have hlc1 : ((c : Int) < 8) = True := eq_true (by omega)
     have h0c : (0 ≤ (c : Int)) = True := eq_true (by omega)
     have htl1 : ((t : Int) < (rows.length : Int)) = True := eq_true (by omega)
     have htl3 : ((t : Int) < (accs.length : Int)) = True := eq_true (by have := hcl.len; omega)
     have htl2 : (0 ≤ (t : Int)) = True := eq_true (by omega)
     cases hlt : lv t with
     | false =>
      rw [hlt] at ef
      have HB2 := HB.out
      rw [colF_dead (by rw [htD]; exact hlt)] at HB2
      have HB3 := Aside0.mk HB2
      clear HB2 HB
      go_wp2_with (go_at_call 60; go_loud (
       with_reducible refine (hwide _).mono ?_
       rintro e w5 ⟨rfl, hb5⟩
       have g2 := hq.step hb5
       have kt := cell_up g2.m.bel et
       have kf := cell_up g2.m.bel ef
       have k9 := cell_up g2.m.bel e9
       have k3 : w5.cell? ⟨gp, 3, none⟩ = some (.slice (some a2) rows.length cn) := (blk_cell (blk_below bP g2.m.bel) 3).trans rfl))
      go_roundg (8 - (c + 1))
      case measure => have := hkq.out; omega
      case rel => exact ⟨c + 1, p, (by go_num), ⟨rfl⟩, by omega, HB3, hv, ⟨g2⟩⟩
     | true =>
      rw [hlt] at ef
      obtain ⟨X, hX⟩ : ∃ X, c % 3 = X := ⟨_, rfl⟩
      obtain ⟨Y, hY⟩ : ∃ Y, c / 3 = Y := ⟨_, rfl⟩
      have hbadr : (X = 2 ∨ Y = 2 ∨ 0 ≤ p.1.getD X (-1)) → res = none := fun h => by
       have h2 := HB.out
       rw [colF_bad (by rw [htD]; exact hlt) (by rw [hX, hY]; exact h)] at h2
       have h3 := HH.out
       rw [← (show none = cr from h2)] at h3
       exact (Option.some.inj h3).symm
      by_cases hXe : X = 2
      ·have hrn := hbadr (Or.inl hXe)
       have eX : ((X : Int) = 2) = True := eq_true (by omega)
       have eX2 : ((X : Int) == 2) = true := by simp <;> omega
       clear hbadr HB HH
       subst hrn
       go_wp2_with (first
        | (go_at_call 60; go_loud (
          with_reducible refine (hwide _).mono ?_
          rintro e w5 ⟨rfl, hb5⟩
          have g2 := hq.step hb5
          have kt := cell_up g2.m.bel et
          have kf := cell_up g2.m.bel ef
          have k9 := cell_up g2.m.bel e9
          have k3 : w5.cell? ⟨gp, 3, none⟩ = some (.slice (some a2) rows.length cn) := (blk_cell (blk_below bP g2.m.bel) 3).trans rfl))
        | (go_at_call 61; (with_reducible refine (hdg0.out _ c hlc).mono ?_); go_loud (
          rintro e w6 ⟨he, hb6⟩
          rw [hX] at he
          subst he
          have g3 := g2.step hb6))
        | (go_at_call 61; (with_reducible refine (hdg1.out _ c hlc).mono ?_); go_loud (
          rintro e w7 ⟨he, hb7⟩
          rw [hY] at he
          subst he
          have g4 := g3.step hb7
          have bR2 := blk_below bR g4.m.bel
          have d0 : w7.cell? ⟨w.heap.size, 0, none⟩ = some (.slice none 0 0) := (blk_cell bR2 0).trans rfl
          have d1 : w7.cell? ⟨w.heap.size, 1, none⟩ = some (.slice none 0 0) := (blk_cell bR2 1).trans rfl
          have d2 : w7.cell? ⟨w.heap.size, 2, none⟩ = some (.slice none 0 0) := (blk_cell bR2 2).trans rfl
          have f0 : w7.frozen? ⟨w.heap.size, 0, none⟩ = false := blk_frozen bR2 0
          have f1 : w7.frozen? ⟨w.heap.size, 1, none⟩ = false := blk_frozen bR2 1
          have f2 : w7.frozen? ⟨w.heap.size, 2, none⟩ = false := blk_frozen bR2 2)))
       have hB := below_step hB1 g4.m.bel
       clear d0 d1 d2 f0 f1 f2
       have b1 := blk_put bR2 0 (.slice none 0 0) rfl
       have b2 := blk_put b1 1 (.slice none 0 0) rfl
       have b3 := blk_put b2 2 (.slice none 0 0) rfl
       refine bodyPost_ret (results_ct rfl _ _ w.heap.size 40 #[.slice none 0 0, .slice none 0 0, .slice none 0 0] (0, 0) _ rfl b3 Tryd.underlying40 rfl (by kernel_rfl)) rfl ⟨_, _, _, rfl, Kd.R_nil _ _ _ _ _, Kd.R_nil _ _ _ _ _, Kd.R_nil _ _ _ _ _, ?_⟩
       exact ((hB.setCell (Nat.le_refl _) _).setCell (Nat.le_refl _) _).setCell (Nat.le_refl _) _
      ·have hX2 : X < 2 := by omega
       have eX : ((X : Int) = 2) = False := eq_false (by omega)
       have eX2 : ((X : Int) == 2) = false := by simp <;> omega
       by_cases hYe : Y = 2
       ·have hrn := hbadr (Or.inr (Or.inl hYe))
        have eY : ((Y : Int) = 2) = True := eq_true (by omega)
        have eY2 : ((Y : Int) == 2) = true := by simp <;> omega
        clear hbadr HB HH
        subst hrn
        go_wp2_with (first
         | (go_at_call 60; go_loud (
           with_reducible refine (hwide _).mono ?_
           rintro e w5 ⟨rfl, hb5⟩
           have g2 := hq.step hb5
           have kt := cell_up g2.m.bel et
           have kf := cell_up g2.m.bel ef
           have k9 := cell_up g2.m.bel e9
           have k3 : w5.cell? ⟨gp, 3, none⟩ = some (.slice (some a2) rows.length cn) := (blk_cell (blk_below bP g2.m.bel) 3).trans rfl))
         | (go_at_call 61; (with_reducible refine (hdg0.out _ c hlc).mono ?_); go_loud (
           rintro e w6 ⟨he, hb6⟩
           rw [hX] at he
           subst he
           have g3 := g2.step hb6))
         | (go_at_call 61; (with_reducible refine (hdg1.out _ c hlc).mono ?_); go_loud (
           rintro e w7 ⟨he, hb7⟩
           rw [hY] at he
           subst he
           have g4 := g3.step hb7
           have bR2 := blk_below bR g4.m.bel
           have d0 : w7.cell? ⟨w.heap.size, 0, none⟩ = some (.slice none 0 0) := (blk_cell bR2 0).trans rfl
           have d1 : w7.cell? ⟨w.heap.size, 1, none⟩ = some (.slice none 0 0) := (blk_cell bR2 1).trans rfl
           have d2 : w7.cell? ⟨w.heap.size, 2, none⟩ = some (.slice none 0 0) := (blk_cell bR2 2).trans rfl
           have f0 : w7.frozen? ⟨w.heap.size, 0, none⟩ = false := blk_frozen bR2 0
           have f1 : w7.frozen? ⟨w.heap.size, 1, none⟩ = false := blk_frozen bR2 1
           have f2 : w7.frozen? ⟨w.heap.size, 2, none⟩ = false := blk_frozen bR2 2)))
        have hB := below_step hB1 g4.m.bel
        clear d0 d1 d2 f0 f1 f2
        have b1 := blk_put bR2 0 (.slice none 0 0) rfl
        have b2 := blk_put b1 1 (.slice none 0 0) rfl
        have b3 := blk_put b2 2 (.slice none 0 0) rfl
        refine bodyPost_ret (results_ct rfl _ _ w.heap.size 40 #[.slice none 0 0, .slice none 0 0, .slice none 0 0] (0, 0) _ rfl b3 Tryd.underlying40 rfl (by kernel_rfl)) rfl ⟨_, _, _, rfl, Kd.R_nil _ _ _ _ _, Kd.R_nil _ _ _ _ _, Kd.R_nil _ _ _ _ _, ?_⟩
        exact ((hB.setCell (Nat.le_refl _) _).setCell (Nat.le_refl _) _).setCell (Nat.le_refl _) _
       ·have hY2 : Y < 2 := by omega
        have eY : ((Y : Int) = 2) = False := eq_false (by omega)
        have eY2 : ((Y : Int) == 2) = false := by simp <;> omega
        obtain ⟨y, hy⟩ : ∃ y, p.1.getD X (-1) = y := ⟨_, rfl⟩
        rw [hy] at hbadr
        replace hy := Aside0.mk hy
        have hX22 : ((X : Int) < 2) = True := eq_true (by omega)
        have hX0 : (0 ≤ (X : Int)) = True := eq_true (by omega)
        by_cases hyn : 0 ≤ y
        ·have hrn := hbadr (Or.inr (Or.inr hyn))
         have hyn1 : (0 ≤ y) = True := eq_true hyn
         clear hbadr HB HH
         subst hrn
         go_wp2_with (first
          | (go_at_call 60; go_loud (
            with_reducible refine (hwide _).mono ?_
            rintro e w5 ⟨rfl, hb5⟩
            have g2 := hq.step hb5
            have kt := cell_up g2.m.bel et
            have kf := cell_up g2.m.bel ef
            have k9 := cell_up g2.m.bel e9
            have k3 : w5.cell? ⟨gp, 3, none⟩ = some (.slice (some a2) rows.length cn) := (blk_cell (blk_below bP g2.m.bel) 3).trans rfl))
          | (go_at_call 61; (with_reducible refine (hdg0.out _ c hlc).mono ?_); go_loud (
            rintro e w6 ⟨he, hb6⟩
            rw [hX] at he
            subst he
            have g3 := g2.step hb6))
          | (go_at_call 61; (with_reducible refine (hdg1.out _ c hlc).mono ?_); go_loud (
            rintro e w7 ⟨he, hb7⟩
            rw [hY] at he
            subst he
            have g4 := g3.step hb7
            have kN : w7.cell? ⟨gN, X, none⟩ = some (.int .i64 y) := by rw [← hy.out]; exact (blk_cell g4.bN X).trans (encI_get hv.out.lN hX2)
            have bR2 := blk_below bR g4.m.bel
            have d0 : w7.cell? ⟨w.heap.size, 0, none⟩ = some (.slice none 0 0) := (blk_cell bR2 0).trans rfl
            have d1 : w7.cell? ⟨w.heap.size, 1, none⟩ = some (.slice none 0 0) := (blk_cell bR2 1).trans rfl
            have d2 : w7.cell? ⟨w.heap.size, 2, none⟩ = some (.slice none 0 0) := (blk_cell bR2 2).trans rfl
            have f0 : w7.frozen? ⟨w.heap.size, 0, none⟩ = false := blk_frozen bR2 0
            have f1 : w7.frozen? ⟨w.heap.size, 1, none⟩ = false := blk_frozen bR2 1
            have f2 : w7.frozen? ⟨w.heap.size, 2, none⟩ = false := blk_frozen bR2 2)))
         have hB := below_step hB1 g4.m.bel
         clear d0 d1 d2 f0 f1 f2
         have b1 := blk_put bR2 0 (.slice none 0 0) rfl
         have b2 := blk_put b1 1 (.slice none 0 0) rfl
         have b3 := blk_put b2 2 (.slice none 0 0) rfl
         refine bodyPost_ret (results_ct rfl _ _ w.heap.size 40 #[.slice none 0 0, .slice none 0 0, .slice none 0 0] (0, 0) _ rfl b3 Tryd.underlying40 rfl (by kernel_rfl)) rfl ⟨_, _, _, rfl, Kd.R_nil _ _ _ _ _, Kd.R_nil _ _ _ _ _, Kd.R_nil _ _ _ _ _, ?_⟩
         exact ((hB.setCell (Nat.le_refl _) _).setCell (Nat.le_refl _) _).setCell (Nat.le_refl _) _
        ·have hgd : ¬ (c % 3 = 2 ∨ c / 3 = 2 ∨ 0 ≤ p.1.getD (c % 3) (-1)) := by rw [hX, hY, hy.out]; omega
         have HB2 := HB.out
         rw [colF_good (by rw [htD]; exact hlt) hgd, hX, hY, htD] at HB2
         have HB3 := Aside0.mk HB2
         have hyn1 : (0 ≤ y) = False := eq_false hyn
         have hv2 := hv.out.set X htl (ab Y)
         obtain ⟨z, hz⟩ : ∃ z, p.2.getD X ⟨#[]⟩ = z := ⟨_, rfl⟩
         have hz2 := Aside0.mk hz
         have hw2 : (0 ≤ (Y : Int) + 1 ∧ (Y : Int) + 1 ≤ 2) = True := eq_true (by omega)
         have hw3 : ((Y : Int) ≤ (Y : Int) + 1) = True := eq_true (by omega)
         have hY0 : (0 ≤ (Y : Int)) = True := eq_true (by omega)
         have hsl : ByteArray.extract ⟨#[97, 98]⟩ Y (Y + 1) = ab Y := by
          have : Y = 0 ∨ Y = 1 := by omega
          rcases this with rfl | rfl <;> rfl
         have hw1 := wrap_b hY2
         clear HB2 HB hbadr hgd hz
         go_wp2_with (first
          | (go_at_call 60; go_loud (
            with_reducible refine (hwide _).mono ?_
            rintro e w5 ⟨rfl, hb5⟩
            have g2 := hq.step hb5
            have kt := cell_up g2.m.bel et
            have kf := cell_up g2.m.bel ef
            have k9 := cell_up g2.m.bel e9
            have k3 : w5.cell? ⟨gp, 3, none⟩ = some (.slice (some a2) rows.length cn) := (blk_cell (blk_below bP g2.m.bel) 3).trans rfl))
          | (go_at_call 61; (with_reducible refine (hdg0.out _ c hlc).mono ?_); go_loud (
            rintro e w6 ⟨he, hb6⟩
            rw [hX] at he
            subst he
            have g3 := g2.step hb6))
          | (go_at_call 61; (with_reducible refine (hdg1.out _ c hlc).mono ?_); go_loud (
            rintro e w7 ⟨he, hb7⟩
            rw [hY] at he
            subst he
            have g4 := g3.step hb7
            have kN : w7.cell? ⟨gN, X, none⟩ = some (.int .i64 y) := by rw [← hy.out]; exact (blk_cell g4.bN X).trans (encI_get hv.out.lN hX2)
            have fN : w7.frozen? ⟨gN, X, none⟩ = false := blk_frozen g4.bN X
            have k2 := Keep.set w7 ⟨gN, X, none⟩ (.int .i64 (t : Int))
            have bO2 := k2.obj g4.bO (off_ne g4.bO (Off.cells g4.bN (by decide)))
            have f2 : w7.frozen? ⟨gO, X, none⟩ = false := blk_frozen g4.bO X
            have c2 := (blk_cell bO2 X).trans (encT_get hv.out.lO hX2)
            rw [hz2.out] at c2
            have g5 := (g4.setN X (t : Int)).setO X (ab Y))))
         clear hw1 hw2 hw3 hsl
         go_roundg (8 - (c + 1))
         case measure => have := hkq.out; omega
         case rel => exact ⟨c + 1, _, (by clear hX hY hkq; refine congrArg _ ?_; unfold wrap64; omega), ⟨rfl⟩, by omega, HB3, ⟨hv2⟩, ⟨g5⟩⟩
    ·have hcc : c = 8 := by omega
     subst hcc
     have hcr2 : some p = cr := HR.out
     subst hcr2
     have HH2 := Aside0.mk (show scr lv rows kf (i + 1) (numF 1 (numF 0 (li, p.1))).1 (nx ++ [(numF 1 (numF 0 (li, p.1))).2]) (ot ++ [p.2]) = some res from HH.out)
     clear HH HR
     go_wp2_with (go_at_call 60; go_loud (
       with_reducible refine (hwide _).mono ?_
       rintro e w5 ⟨rfl, hb5⟩
       have g2 := hq.step hb5))
     have hn0 : NumOk rows.length li 0 tab (li, p.1) := ⟨hTab.out, ⟨[], by simp⟩, hv.out.lN, fun j _ hj => by
      have hl : j < p.1.length := by rw [hv.out.lN]; exact hj
      have e : p.1.getD j (-1) = p.1[j] := by simp [List.getD_eq_getElem?_getD, hl]
      rw [e]
      exact hv.out.st _ (List.getElem_mem hl)⟩
     go_loopg [8, 18] 2 (fun kq v8 v18 wq => ∃ (x : Nat) (q : List Nat × List Int) (tab : List Int) (A' : Option Addr) (c' : Nat), v8 = .slice A' q.1.length c' ∧ v18 = .int .i64 (x : Int) ∧ Aside0 (kq = 2 - x) ∧ x ≤ 2 ∧ Aside0 (numFrom x q = numF 1 (numF 0 (li, p.1))) ∧ Aside0 (NumOk rows.length li x tab q) ∧
      Aside0 (NowS w1 w1.heap.size gT rows.length cT gN gO (tab.map (· + 1)) (.slice A' q.1.length c') (q.1, q.2, p.2) vA ((li.take i).map (acF accs)) vN nx vO ot wq))
     case atStart => exact ⟨0, (li, p.1), tab, _, _, rfl, rfl, ⟨rfl⟩, by omega, ⟨rfl⟩, ⟨hn0⟩, ⟨g2⟩⟩
     case round =>
      clear hn0 g2
      obtain ⟨x, q, tab, A', c', rfl, rfl, hkx, hx2, HN, hno, hz⟩ := hrel
      replace hz := hz.out
      by_cases hlx : x < 2
      ·have HN1 := HN.out
       rw [numFrom_step hlx] at HN1
       have HN2 := Aside0.mk HN1
       clear HN1 HN
       have hlx1 : ((x : Int) < 2) = True := eq_true (by omega)
       have h0x : (0 ≤ (x : Int)) = True := eq_true (by omega)
       obtain ⟨y, hy⟩ : ∃ y, q.2.getD x (-1) = y := ⟨_, rfl⟩
       have kN : wr.cell? ⟨gN, x, none⟩ = some (.int .i64 y) := by rw [← hy]; exact (blk_cell hz.bN x).trans (encI_get hno.out.len hlx)
       rcases hno.out.st x (Nat.le_refl _) hlx with he | ⟨t, htl, he⟩
       ·rw [hy] at he
        subst he
        have hnf : numF x q = q := by unfold numF; rw [hy, if_pos (by omega)]
        have HN3 := HN2.out
        rw [hnf] at HN3
        have HN4 := Aside0.mk HN3
        have hno2 : NumOk rows.length li (x + 1) tab q := ⟨hno.out.tab, hno.out.pre, hno.out.len, fun j h1 h2 => hno.out.st j (by omega) h2⟩
        clear HN2 HN3 hnf
        go_wp2_with fail
        go_roundg (2 - (x + 1))
        case measure => have := hkx.out; omega
        case rel => exact ⟨x + 1, q, tab, A', c', rfl, (by go_num), ⟨rfl⟩, by omega, HN4, ⟨hno2⟩, ⟨hz⟩⟩
       ·rw [hy] at he
        subst he
        have hyn : ((t : Int) < 0) = False := eq_false (by omega)
        have h0t : (0 ≤ (t : Int)) = True := eq_true (by omega)
        have hta : ((t : Int) < (accs.length : Int)) = True := eq_true (by have := hcl.len; omega)
        have htr : ((t : Int) < (rows.length : Int)) = True := eq_true (by omega)
        have fN : wr.frozen? ⟨gN, x, none⟩ = false := blk_frozen hz.bN x
        have hl2 : t < (tab.map (· + 1)).length := by rw [List.length_map, hno.out.tab.len]; exact htl
        have etab := sr_at hz.m.tab hl2
        rw [List.getElem_map] at etab
        have hl3 : t < tab.length := by rw [hno.out.tab.len]; exact htl
        rcases tab_at hno.out.tab htl with ⟨hfn, hm1, hnm⟩ | ⟨j, hfj, hm1, hjl⟩
        ·rw [List.getElem?_eq_getElem hl3] at hm1
         rw [Option.some.inj hm1] at etab
         have HN3 := HN2.out
         rw [numF_miss hy hfn] at HN3
         have HN4 := Aside0.mk HN3
         have hno2 := hno.out.more htl hnm (q.1.length : Int) (x := x)
         have hlL : q.1.length + 1 ≤ rows.length := by have := hno2.tab.le; simpa using this
         have etab2 : wr.cell? ⟨gT, t, none⟩ = some (.int .i64 0) := etab
         have htab3 : (tab.map (· + 1)).set t ((q.1.length : Int) + 1) = (tab.set t (q.1.length : Int)).map (· + 1) := by rw [List.map_set]
         replace htab3 := Aside0.mk htab3
         have hjw : wrap64 ((q.1.length : Int) + 1 - 1) = (q.1.length : Int) := by unfold wrap64; omega
         have hgw := hgT
         have hgTr := Kd.R_lt hz.m.tab gT rfl
         clear HN2 HN3 hfn hm1 hnm etab
         go_wp2_with ((with_reducible refine gate_builtin (b := .append) (xs := #[.tmp 134, .tmp 136]) rfl ?_); go_loud (
          at_builtin
          refine R_append' (Kd.int .i64) (w0 := w1) w1.heap.size rfl (.tmp 134) (.tmp 136) 86 2 (.int .i64 0) 8 rfl Tryd.underlying86 info_long rfl (by decide) (by decide) (.slice A' q.1.length c') (ints q.1) (t : Int) [.int .i64 (t : Int)] (fun _ => True) (fun _ => False) _ (by simp) rfl rfl rfl (fun _ h => h.elim) (fun _ _ => trivial) hz.m.lst hz.m.bel (Below.size hz.m.bel) (by rw [ints_length]; omega) ?_
          intro v5 w5 hR5 hb5 hg5 hat5
          obtain ⟨A5, c5, hv5⟩ := Kd.R_slice hR5
          have ev5 : (ints q.1 ++ [(t : Int)]).length = q.1.length + 1 := by simp [ints, GwI.ints]
          rw [ev5] at hv5
          clear ev5
          subst hv5
          have ei5 : ints q.1 ++ [(t : Int)] = ints (q.1 ++ [t]) := by simp [ints, GwI.ints]
          rw [ei5] at hR5
          clear ei5
          have h5 := hz.push hgTr hg5 hat5 hR5 hb5
          have et5 := sr_at h5.m.tab hl2
          obtain ⟨_, cells5, hcT5⟩ := row_blk h5.m.tab (by omega)
          have fT5 : w5.frozen? ⟨gT, t, none⟩ = false := blk_frozen hcT5 t
          clear hcT5 cells5
          have h6 := h5.setT hgw t ((q.1.length : Int) + 1)
          have et6 := sr_at h6.m.tab (i := t) (by rw [List.length_set]; exact hl2)
          rw [List.getElem_set_self] at et6
          have kN6 := (blk_cell h6.bN x).trans (encI_get hno.out.len hlx)
          rw [hy] at kN6
          have fN6 : (w5.setCell ⟨gT, t, none⟩ (.int .i64 ((q.1.length : Int) + 1))).frozen? ⟨gN, x, none⟩ = false := blk_frozen h6.bN x))
         clear hjw
         rw [htab3.out] at h6
         have h7 := h6.setN x (q.1.length : Int)
         go_roundg (2 - (x + 1))
         case measure => have := hkx.out; omega
         case rel => exact ⟨x + 1, (q.1 ++ [t], q.2.set x (q.1.length : Int)), tab.set t (q.1.length : Int), A5, c5, (by simp), (by go_num), ⟨rfl⟩, by omega, HN4, ⟨hno2⟩, ⟨by have e : (q.1 ++ [t]).length = q.1.length + 1 := (by simp); rw [e]; exact h7⟩⟩
        ·rw [List.getElem?_eq_getElem hl3] at hm1
         rw [Option.some.inj hm1] at etab
         have HN3 := HN2.out
         rw [numF_hit hy hfj] at HN3
         have HN4 := Aside0.mk HN3
         have hno2 := hno.out.set (j : Int) (x := x)
         have hj0 : ((j : Int) + 1 = 0) = False := eq_false (by omega)
         have hj1 : ((j : Int) + 1 == 0) = false := by simp <;> omega
         have hjb : j < 1000000 := by have := hno.out.tab.le; omega
         have hjw : wrap64 ((j : Int) + 1 - 1) = (j : Int) := by unfold wrap64; omega
         replace hjw := hjw
         clear HN2 HN3 hfj hm1
         go_wp2_with fail
         clear hjw
         go_roundg (2 - (x + 1))
         case measure => have := hkx.out; omega
         case rel => exact ⟨x + 1, (q.1, q.2.set x (j : Int)), tab, A', c', rfl, (by go_num), ⟨rfl⟩, by omega, HN4, ⟨hno2⟩, ⟨hz.setN x (j : Int)⟩⟩
      ·have hxx : x = 2 := by omega
       subst hxx
       have hqe : q = numF 1 (numF 0 (li, p.1)) := HN.out
       have H3 := HH2.out
       rw [← hqe] at H3
       have HH3 := Aside0.mk H3
       clear H3 HN hqe HH2
       have hka : k < accs.length := by have := hcl.len; omega
       have hka1 : ((k : Int) < (accs.length : Int)) = True := eq_true (by omega)
       obtain ⟨am, rfl, km⟩ := at_mark hA1 k hka
       obtain ⟨bx, hbx⟩ : ∃ bx, acF accs k = bx := ⟨_, rfl⟩
       rw [← acF_get hka, hbx] at km
       have hbx2 := Aside0.mk hbx
       have hk2 := Aside0.mk hk
       have hlen2 := Aside0.mk hcl.len
       have hil2 : i ≤ 1000000 := by have := hTab.out.le; omega
       clear hbx hk
       go_wp2_with fail
       have hB : ∀ W', Below w1.heap.size w1 W' → W'.cell? ⟨gp, 2, none⟩ = some (.slice (some am) accs.length ca) ∧ W'.cell? (am.add k) = some (.bool bx) := fun W' hb => ⟨(blk_cell (blk_below bP hb) 2).trans rfl, cell_up hb km⟩
       have hSS : ∀ W' vA' bs', NowS w1 w1.heap.size gT rows.length cT gN gO (tab.map (· + 1)) (.slice A' q.1.length c') (q.1, q.2, p.2) vA' bs' vN nx vO ot W' → W'.cell? ⟨w1.heap.size, 0, none⟩ = some vA' ∧ W'.cell? ⟨gp, 2, none⟩ = some (.slice (some am) accs.length ca) ∧ W'.cell? (am.add k) = some (.bool bx) := fun W' vA' bs' h => ⟨(blk_cell h.m.bX 0).trans rfl, hB W' h.m.bel⟩
       have hQd := hz.step (below_drew1 (Below.refl _ _))
       refine start_ (n := 13) (S := fun w' => w'.cell? ⟨w1.heap.size, 0, none⟩ = some vA ∧ w'.cell? ⟨gp, 2, none⟩ = some (.slice (some am) accs.length ca) ∧ w'.cell? (am.add k) = some (.bool bx)) (ds := [12]) #[false, false, false, false, false, false, false, false, false, false, false, false, false] (by kernel_rfl) rfl rfl (hSS _ _ _ hQd) (fun hHeld => ?_)
       refine pure_ (i := 0) (N := some 150) (v := ?_) (a' := ?_) #[true, false, false, false, false, false, false, false, false, false, false, false, false] rfl rfl (by kernel_rfl) (fun _ _ _ h => h) (Or.inl ⟨by rfl, ?_⟩) ?_ ?_
       rotate_left
       ·intro w'
        go_simp
        with_reducible rfl
       rotate_left
       ·simp only [Act.put, List.setIfInBounds_toArray, List.set_cons_zero, List.set_cons_succ, i64_w, i32_w]
        rfl
       refine pure_ (i := 2) (N := some 152) (v := ?_) (a' := ?_) #[true, false, true, false, false, false, false, false, false, false, false, false, false] rfl rfl (by kernel_rfl) (fun _ _ _ h => h) (Or.inl ⟨by rfl, ?_⟩) ?_ ?_
       rotate_left
       ·intro w'
        go_simp
        with_reducible rfl
       rotate_left
       ·simp only [Act.put, List.setIfInBounds_toArray, List.set_cons_zero, List.set_cons_succ, i64_w, i32_w]
        rfl
       refine pure_ (i := 3) (N := some 153) (v := ?_) (a' := ?_) #[true, false, true, true, false, false, false, false, false, false, false, false, false] rfl rfl (by kernel_rfl) (fun _ _ _ h => h) (Or.inl ⟨by rfl, ?_⟩) ?_ ?_
       rotate_left
       ·intro w'
        go_simp
        with_reducible rfl
       rotate_left
       ·simp only [Act.put, List.setIfInBounds_toArray, List.set_cons_zero, List.set_cons_succ, i64_w, i32_w]
        rfl
       refine pure_ (i := 4) (N := some 154) (v := ?_) (a' := ?_) #[true, false, true, true, true, false, false, false, false, false, false, false, false] rfl rfl (by kernel_rfl) (fun _ _ _ h => h) (Or.inl ⟨by rfl, ?_⟩) ?_ ?_
       rotate_left
       ·intro w'
        go_simp
        with_reducible rfl
       rotate_left
       ·simp only [Act.put, List.setIfInBounds_toArray, List.set_cons_zero, List.set_cons_succ, i64_w, i32_w]
        rfl
       refine pure_ (i := 6) (N := some 156) (v := ?_) (a' := ?_) #[true, false, true, true, true, false, true, false, false, false, false, false, false] rfl rfl (by kernel_rfl) (fun _ _ _ h => h) (Or.inl ⟨by rfl, ?_⟩) ?_ ?_
       rotate_left
       ·intro w'
        go_simp
        with_reducible rfl
       rotate_left
       ·simp only [Act.put, List.setIfInBounds_toArray, List.set_cons_zero, List.set_cons_succ, i64_w, i32_w]
        rfl
       refine take_ (i := 1) (N := some 151) (v := ?_) (a' := ?_) #[true, true, true, true, true, false, true, false, false, false, false, false, false] rfl rfl (by kernel_rfl) (fun _ _ _ h => h) (Or.inl ⟨by rfl, ?_⟩) hHeld ?_ ?_
       rotate_left
       ·rintro w' ⟨s1, s2, s3⟩
        go_simp
        with_reducible rfl
       rotate_left
       ·simp only [Act.put, List.setIfInBounds_toArray, List.set_cons_zero, List.set_cons_succ, i64_w, i32_w]
        rfl
       refine take_ (i := 5) (N := some 155) (v := ?_) (a' := ?_) #[true, true, true, true, true, true, true, false, false, false, false, false, false] rfl rfl (by kernel_rfl) (fun _ _ _ h => h) (Or.inl ⟨by rfl, ?_⟩) hHeld ?_ ?_
       rotate_left
       ·rintro w' ⟨s1, s2, s3⟩
        go_simp
        with_reducible rfl
       rotate_left
       ·simp only [Act.put, List.setIfInBounds_toArray, List.set_cons_zero, List.set_cons_succ, i64_w, i32_w]
        rfl
       refine pure_ (i := 7) (N := some 157) (v := ?_) (a' := ?_) #[true, true, true, true, true, true, true, true, false, false, false, false, false] rfl rfl (by kernel_rfl) (fun _ _ _ h => h) (Or.inl ⟨by rfl, ?_⟩) ?_ ?_
       rotate_left
       ·intro w'
        go_simp
        with_reducible rfl
       rotate_left
       ·simp only [Act.put, List.setIfInBounds_toArray, List.set_cons_zero, List.set_cons_succ, i64_w, i32_w]
        rfl
       refine take_ (i := 8) (N := some 158) (v := ?_) (a' := ?_) #[true, true, true, true, true, true, true, true, true, false, false, false, false] rfl rfl (by kernel_rfl) (fun _ _ _ h => h) (Or.inl ⟨by rfl, ?_⟩) hHeld ?_ ?_
       rotate_left
       ·rintro w' ⟨s1, s2, s3⟩
        go_simp
        with_reducible rfl
       rotate_left
       ·simp only [Act.put, List.setIfInBounds_toArray, List.set_cons_zero, List.set_cons_succ, i64_w, i32_w]
        rfl
       refine one_ (i := 9) (N := some 159) #[true, true, true, true, true, true, true, true, true, true, false, false, false] rfl rfl (by kernel_rfl) (by decide) (fun K hK => ?_)
       refine value_ (w1 := wr.drew.alloc (.cells #[.bool bx] 4)) (v := .slice (some ⟨wr.drew.heap.size, 0, none⟩) 1 1) (by rfl) rfl (by first | (go_simp; done) | (go_simp; rfl)) ?_
       have hQ5 := hQd.step (below_alloc (Below.refl _ _) (.cells #[.bool bx] 4))
       refine hK.out _ _ (hSS _ _ _ hQ5) (fun hHeld => ?_)
       clear hK K
       refine norm_ (a' := ?_) ?_ ?_
       rotate_left
       ·show Act.put _ (some 159) _ = _
        simp only [Act.put, List.setIfInBounds_toArray, List.set_cons_zero, List.set_cons_succ, i64_w, i32_w]
        rfl
       refine one_ (i := 10) (N := some 160) #[true, true, true, true, true, true, true, true, true, true, true, false, false] rfl rfl (by kernel_rfl) (by decide) (fun K hK => ?_)
       refine Kd.R_append_step Kd.bool (w0 := w1) w1.heap.size (by rfl) (.tmp 151) (.tmp 159) 22 4 (.bool false) 1 rfl Tryd.underlying22 GwI.info_bool rfl (by decide) (by decide) vA ((li.take i).map (acF accs)) bx [.bool bx] (fun _ => True) (fun _ => False) rfl rfl rfl (fun _ h => h.elim) (fun _ _ => trivial) hQd.m.acc hQd.m.bel (Below.size hQd.m.bel) (by simp <;> omega) ?_
       intro v6 w6 hR6 hb6 hg6 hat6
       obtain ⟨A6, c6, hv6⟩ := Kd.R_slice hR6
       subst hv6
       obtain ⟨b26, hQ6⟩ := hQd.mark hg6 hR6 hb6
       refine hK.out _ _ ⟨(blk_cell b26 0).trans rfl, hB _ hb6⟩ (fun hHeld => ?_)
       clear hK K
       refine norm_ (a' := ?_) ?_ ?_
       rotate_left
       ·show Act.put _ (some 160) _ = _
        simp only [Act.put, List.setIfInBounds_toArray, List.set_cons_zero, List.set_cons_succ, i64_w, i32_w]
        rfl
       refine pure_ (i := 11) (N := some 161) (v := ?_) (a' := ?_) #[true, true, true, true, true, true, true, true, true, true, true, true, false] rfl rfl (by kernel_rfl) (fun _ _ _ h => h) (Or.inl ⟨by rfl, ?_⟩) ?_ ?_
       rotate_left
       ·intro w'
        go_simp
        with_reducible rfl
       rotate_left
       ·simp only [Act.put, List.setIfInBounds_toArray, List.set_cons_zero, List.set_cons_succ, i64_w, i32_w]
        rfl
       refine last_ (i := 12) (N := none) #[true, true, true, true, true, true, true, true, true, true, true, true, true] rfl rfl (by kernel_rfl) (by decide) (fun K hK => ?_)
       have hf6 : w6.frozen? ⟨w1.heap.size, 0, none⟩ = false := blk_frozen b26 0
       have hc6 : w6.cell? ⟨w1.heap.size, 0, none⟩ = some vA := (blk_cell b26 0).trans rfl
       refine skip_ (w1 := w6.setCell ⟨w1.heap.size, 0, none⟩ (.slice A6 (((li.take i).map (acF accs)) ++ [bx]).length c6)) (by rfl) rfl (by first | (go_simp; done) | (go_simp; rfl)) ?_
       refine hK.out _ _ ?_
       clear hK K
       refine done_ (by kernel_rfl) ?_
       clear hSS hB hQd hQ5 hf6 hc6 b26 hR6 hb6 hg6 hHeld hz
       generalize w6.setCell ⟨w1.heap.size, 0, none⟩ (.slice A6 (((li.take i).map (acF accs)) ++ [bx]).length c6) = w7 at *
       obtain ⟨n0, n1, hN2⟩ := two_list hno.out.len
       obtain ⟨t0, t1, hO2⟩ := two_list hv.out.lO
       have hgN7 := blk_lt hQ6.bN
       have hgO7 := blk_lt hQ6.bO
       have bN7 := hQ6.bN
       rw [hN2] at bN7
       have k0 : w7.cell? ⟨gN, 0, none⟩ = some (.int .i64 n0) := (blk_cell bN7 0).trans rfl
       have k1 : w7.cell? ⟨gN, 1, none⟩ = some (.int .i64 n1) := (blk_cell bN7 1).trans rfl
       have c71 : w7.cell? ⟨w1.heap.size, 1, none⟩ = some vN := (blk_cell hQ6.m.bX 1).trans rfl
       have hnl2 : nx.length ≤ 1000000 := by have := hnl.out; omega
       have hol2 : ot.length ≤ 1000000 := by have := hol.out; omega
       clear bN7
       go_wp2_with (first
       | ((with_reducible refine gate_builtin (b := .append) (xs := #[.tmp 163, .tmp 165]) rfl ?_); go_loud (
         at_builtin
         refine R_append' Pair (w0 := w1) w1.heap.size rfl (.tmp 163) (.tmp 165) 33 89 (.agg #[.int .i64 0, .int .i64 0]) 16 rfl Tryd.underlying33 info_pair rfl (by decide) (by decide) vN nx [n0, n1] [.int .i64 n0, .int .i64 n1] (fun k => some k ≠ some gN) (fun _ => False) _ (by simp) rfl rfl (Kd.arr_of_cells rfl) (fun _ h => h.elim) (fun k hk e => by have := Option.some.inj e; omega) hQ6.m.nxt hQ6.m.bel (Below.size hQ6.m.bel) (by omega) ?_
         intro v8 w8 hR8 hb8 hg8 hat8
         obtain ⟨A8, c8, hv8⟩ := Kd.R_slice hR8
         rw [List.length_append, List.length_singleton] at hv8
         subst hv8
         obtain ⟨b28, m8, o8⟩ := hQ6.addN hg8 hR8 hb8
         rw [hO2] at o8
         have c81 : w8.cell? ⟨w1.heap.size, 1, none⟩ = some vN := (blk_cell b28 1).trans rfl
         have f81 : w8.frozen? ⟨w1.heap.size, 1, none⟩ = false := blk_frozen b28 1
         have c82 : w8.cell? ⟨w1.heap.size, 2, none⟩ = some vO := (blk_cell b28 2).trans rfl
         have j0 : (w8.setCell ⟨w1.heap.size, 1, none⟩ (.slice A8 (nx.length + 1) c8)).cell? ⟨gO, 0, none⟩ = some (.string t0) := (blk_cell o8 0).trans rfl
         have j1 : (w8.setCell ⟨w1.heap.size, 1, none⟩ (.slice A8 (nx.length + 1) c8)).cell? ⟨gO, 1, none⟩ = some (.string t1) := (blk_cell o8 1).trans rfl
         have hg8O := blk_lt o8))
       | ((with_reducible refine gate_builtin (b := .append) (xs := #[.tmp 169, .tmp 171]) rfl ?_); go_loud (
         at_builtin
         refine R_append' Text2 (w0 := w1) w1.heap.size rfl (.tmp 169) (.tmp 171) 34 90 (.agg #[.string ⟨#[]⟩, .string ⟨#[]⟩]) 32 rfl Tryd.underlying34 info_text2 rfl (by decide) (by decide) vO ot [t0, t1] [.string t0, .string t1] (fun k => some k ≠ some gO) (fun _ => False) _ (by simp) rfl rfl (Kd.arr_of_cells rfl) (fun _ h => h.elim) (fun k hk e => by have := Option.some.inj e; omega) m8.out m8.bel (Below.size m8.bel) (by omega) ?_
         intro v9 w9 hR9 hb9 hg9 hat9
         obtain ⟨A9', c9', hv9⟩ := Kd.R_slice hR9
         rw [List.length_append, List.length_singleton] at hv9
         subst hv9
         obtain ⟨b29, m9⟩ := m8.addO hg9 hR9 hb9
         have c92 : w9.cell? ⟨w1.heap.size, 2, none⟩ = some vO := (blk_cell b29 2).trans rfl
         have f92 : w9.frozen? ⟨w1.heap.size, 2, none⟩ = false := blk_frozen b29 2)))
       obtain ⟨mm, hmm⟩ := hno.out.pre
       have hli2 : i < li.length := hlt
       have hqlen : i + 1 ≤ q.1.length := by rw [hmm, List.length_append]; omega
       go_roundg kf
       case measure => omega
       case rel =>
        have e1 : (q.1.take (i + 1)).map (acF accs) = (li.take i).map (acF accs) ++ [bx] := by
         rw [take_step hmm hli2 (by rw [List.getElem?_eq_getElem hli2, hk2.out]), List.map_append, ← hbx2.out]
         rfl
        have h9 := m9.done
        exact ⟨i + 1, q.1, tab, nx ++ [[n0, n1]], ot ++ [[t0, t1]], _, _, _, _, _, rfl, (by go_num), ⟨by rw [← hN2, ← hO2]; exact HH3.out⟩, ⟨by have := hnl.out; simp; omega⟩, ⟨by have := hol.out; simp; omega⟩, hqlen, ⟨hno.out.tab⟩, ⟨by rw [e1]; exact h9⟩⟩
  ·rw [dif_neg hlt] at H1
   have hres2 : some (li, nx, ot) = res := Option.some.inj H1
   subst hres2
   have hii : i = li.length := by omega
   subst hii
   clear H H1
   rw [List.take_of_length_le (Nat.le_refl _)] at h
   have hlt1 : ((li.length : Int) < (li.length : Int)) = False := eq_false (by omega)
   have d0 : wo.cell? ⟨w1.heap.size, 0, none⟩ = some vA := (blk_cell h.bX 0).trans rfl
   have d1 : wo.cell? ⟨w1.heap.size, 1, none⟩ = some vN := (blk_cell h.bX 1).trans rfl
   have d2 : wo.cell? ⟨w1.heap.size, 2, none⟩ = some vO := (blk_cell h.bX 2).trans rfl
   have b := blk_below bR h.bel
   have e0 : wo.cell? ⟨w.heap.size, 0, none⟩ = some (.slice none 0 0) := (blk_cell b 0).trans rfl
   have e1 : wo.cell? ⟨w.heap.size, 1, none⟩ = some (.slice none 0 0) := (blk_cell b 1).trans rfl
   have e2 : wo.cell? ⟨w.heap.size, 2, none⟩ = some (.slice none 0 0) := (blk_cell b 2).trans rfl
   have f0 : wo.frozen? ⟨w.heap.size, 0, none⟩ = false := blk_frozen b 0
   have f1 : wo.frozen? ⟨w.heap.size, 1, none⟩ = false := blk_frozen b 1
   have f2 : wo.frozen? ⟨w.heap.size, 2, none⟩ = false := blk_frozen b 2
   have hB := below_step hB1 h.bel
   have hlow := Below.size hB1
   obtain ⟨AX, cX, hvA⟩ := Kd.R_slice h.acc
   obtain ⟨BX, dX, hvN⟩ := Kd.R_slice h.nxt
   obtain ⟨CX, eX, hvO⟩ := Kd.R_slice h.out
   subst hvA
   subst hvN
   subst hvO
   go_wp2_with fail
   clear d0 d1 d2 e0 e1 e2 f0 f1 f2
   have b1 := blk_put b 0 (.slice AX (li.map (acF accs)).length cX) rfl
   have b2 := blk_put b1 1 (.slice BX nx.length dX) rfl
   have b3 := blk_put b2 2 (.slice CX ot.length eX) rfl
   simp only [List.length_map] at b3 ⊢
   refine bodyPost_ret (results_ct rfl _ _ (w.heap.size) 40 #[.slice AX li.length cX, .slice BX nx.length dX, .slice CX ot.length eX] (0, 0) _ rfl b3 Tryd.underlying40 rfl (by kernel_rfl)) rfl ⟨_, _, _, rfl, ?_, ?_, ?_, ?_⟩
   ·have hA2 := Kd.R_set (Kd.R_set (Kd.R_set (Kd.R_lower h.acc hlow) b (by decide) 0 (.slice AX (li.map (acF accs)).length cX)) b1 (by decide) 1 (.slice BX nx.length dX)) b2 (by decide) 2 (.slice CX ot.length eX)
    simp only [List.length_map] at hA2
    exact hA2
   ·have hA2 := Kd.R_mono (Kd.R_set (Kd.R_set (Kd.R_set (Kd.R_lower h.nxt hlow) b (by decide) 0 (.slice AX (li.map (acF accs)).length cX)) b1 (by decide) 1 (.slice BX nx.length dX)) b2 (by decide) 2 (.slice CX ot.length eX)) (ok' := fun _ => True) (fun _ _ => trivial)
    simp only [List.length_map] at hA2
    exact hA2
   ·have hA2 := Kd.R_mono (Kd.R_set (Kd.R_set (Kd.R_set (Kd.R_lower h.out hlow) b (by decide) 0 (.slice AX (li.map (acF accs)).length cX)) b1 (by decide) 1 (.slice BX nx.length dX)) b2 (by decide) 2 (.slice CX ot.length eX)) (ok' := fun _ => True) (fun _ _ => trivial)
    simp only [List.length_map] at hA2
    exact hA2
   ·exact ((hB.setCell (Nat.le_refl _) _).setCell (Nat.le_refl _) _).setCell (Nat.le_refl _) _
end Go.Proofs.YtbamnonamdpooaaDoor.Sp
namespace Go.Proofs.YtbamnonamdpooaaDoor.Sp
set_option linter.unusedVariables false
set_option linter.unusedSimpArgs false
open Go.RowKit Go.Proofs.YtbamnonamdpooaaDoorW.PrintWords Go.Proofs.YtbamnonamdpooaaDoorW.PrintLast Go.Proofs.YtbamnonamdpooaaDoorW.PrintMore Go.Proofs.YtbamnonamdpooaaDoor.Mp Go.Proofs.YtbamnonamdpooaaDoor.Kp Go.Proofs.YtbamnonamdpooaaDoor.Mg Go.Proofs.YtbamnonamdpooaaDoor.Tdy Go.Proofs.YtbamnonamdpooaaDoor.Rg Go.Proofs.YtbamnonamdpooaaDoor.Tw Go.Proofs.YtbamnonamdpooaaDoor.Sb
set_option maxHeartbeats 8000000 in
set_option maxRecDepth 100000 in
theorem scribe_dead (tapes : Int) (start : Nat) (accs : List Bool) (rows : List (List Nat)) (hcl : Closed 8 rows accs) (hn : rows.length ≤ 1000000) (hst : start < rows.length)
  (lv : Nat → Bool) (w : World) (gp : Nat) (AA : Option Addr) (ca : Nat) (AN : Option Addr) (cn : Nat) (hP : w.heap[gp]? = some (.cells #[.int .i64 tapes, .int .i64 start, .slice AA accs.length ca, .slice AN rows.length cn] 29 (0, 0)))
  (hA : Kd.C Kd.bool w AA accs.length accs) (hN : Kd.C (Kd.slice 2 (Kd.int .i64)) w AN rows.length (rows.map ints)) (hca : accs.length ≤ ca) (hcn : rows.length ≤ cn)
  (hfar : ∀ W, Below w.heap.size w W → Calls Tryd.prog 110 #[.pointer (some ⟨gp, 0, none⟩)] W fun e W' => ∃ v, e = .returned v ∧ Kd.R Kd.bool 4 W' W.heap.size (fun _ => True) v ((List.range rows.length).map lv) ∧ Below W.heap.size W W')
  (hwide : ∀ W, Calls Tryd.prog 60 #[.int .i64 2] W fun e W' => e = .returned (.int .i64 8) ∧ Below W.heap.size W W')
  (hdig0 : ∀ W (c : Nat), c < 8 → Calls Tryd.prog 61 #[.int .i64 (c : Int), .int .i64 0] W fun e W' => e = .returned (.int .i64 ((c % 3 : Nat) : Int)) ∧ Below W.heap.size W W')
  (hdig1 : ∀ W (c : Nat), c < 8 → Calls Tryd.prog 61 #[.int .i64 (c : Int), .int .i64 1] W fun e W' => e = .returned (.int .i64 ((c / 3 : Nat) : Int)) ∧ Below W.heap.size W W')
  (hdead : lv start = false) :
  Calls Tryd.prog 49 #[.pointer (some ⟨gp, 0, none⟩)] w fun e w' => ∃ vA vN vO, e = .returned (.tuple #[.agg #[vA, vN, vO], .bool true]) ∧
   Kd.R Kd.bool 4 w' w.heap.size (fun _ => True) vA [false] ∧ Kd.R Pair 89 w' w.heap.size (fun _ => True) vN [[-1, -1]] ∧ Kd.R Text2 90 w' w.heap.size (fun _ => True) vO [[⟨#[]⟩, ⟨#[]⟩]] ∧ Below w.heap.size w w' := by
 have hgp := blk_lt hP
 go_enter Tryd.func49, Tryd.ntmps49
 go_wp2_with (first
  | (go_at_call 110; go_loud (
    have hB0 := below_alloc (Below.refl w.heap.size w) (.cells #[.slice none 0 0, .slice none 0 0, .slice none 0 0] 40)
    with_reducible refine (hfar _ hB0).mono ?_
    rintro e w1 ⟨vF, rfl, rF, hb1⟩
    have bR := blk_below (blk_new w (.cells #[.slice none 0 0, .slice none 0 0, .slice none 0 0] 40)) hb1
    have bP := blk_below (blk_alloc hP (.cells #[.slice none 0 0, .slice none 0 0, .slice none 0 0] 40)) hb1
    have hB1 := below_step hB0 hb1
    obtain ⟨AF, cF, hvF⟩ := Kd.R_slice rF
    subst hvF
    rw [List.length_map, List.length_range] at rF
    obtain ⟨hq1, hq2, hCF⟩ := Kd.R_reads' rF
    clear hq1
    rw [List.length_map, List.length_range] at hCF ⊢
    have hbA := below_alloc (Below.refl w1.heap.size w1) (.cells #[.slice none 0 0, .slice none 0 0, .slice none 0 0] 40)
    obtain ⟨adF, rfl, kF⟩ := at_mark (Kd.C_below hCF hbA) start (by rw [List.length_map, List.length_range]; exact hst)
    rw [List.getElem_map, List.getElem_range, hdead] at kF
    have m1 : (w1.alloc (.cells #[.slice none 0 0, .slice none 0 0, .slice none 0 0] 40)).cell? ⟨gp, 1, none⟩ = some (.int .i64 (start : Int)) := (blk_cell (blk_alloc bP _) 1).trans rfl
    have hst2 : ((start : Int) < (rows.length : Int)) = True := eq_true (by omega)
    have h0s : (0 ≤ (start : Int)) = True := eq_true (by omega)))
  | (go_at_call 111; go_loud (
    with_reducible refine (refused _).mono ?_
    rintro e w5 ⟨rfl, hb5⟩
    have hB5 := below_step (below_alloc hB1 (.cells #[.slice none 0 0, .slice none 0 0, .slice none 0 0] 40)) hb5
    have bR5 := blk_below (blk_alloc bR (.cells #[.slice none 0 0, .slice none 0 0, .slice none 0 0] 40)) hb5
    have b := blk_alloc (blk_alloc (blk_alloc (blk_alloc (blk_alloc bR5 (.cells #[.int .i64 (-1), .int .i64 (-1)] 89)) (.cells #[.string ⟨#[]⟩, .string ⟨#[]⟩] 90)) (.cells #[.bool false] 4)) (.cells #[.int .i64 (-1), .int .i64 (-1)] 89)) (.cells #[.string ⟨#[]⟩, .string ⟨#[]⟩] 90)
    have d0 : (((((w5.alloc (.cells #[.int .i64 (-1), .int .i64 (-1)] 89)).alloc (.cells #[.string ⟨#[]⟩, .string ⟨#[]⟩] 90)).alloc (.cells #[.bool false] 4)).alloc (.cells #[.int .i64 (-1), .int .i64 (-1)] 89)).alloc (.cells #[.string ⟨#[]⟩, .string ⟨#[]⟩] 90)).cell? ⟨w.heap.size, 0, none⟩ = some (.slice none 0 0) := (blk_cell b 0).trans rfl
    have d1 : (((((w5.alloc (.cells #[.int .i64 (-1), .int .i64 (-1)] 89)).alloc (.cells #[.string ⟨#[]⟩, .string ⟨#[]⟩] 90)).alloc (.cells #[.bool false] 4)).alloc (.cells #[.int .i64 (-1), .int .i64 (-1)] 89)).alloc (.cells #[.string ⟨#[]⟩, .string ⟨#[]⟩] 90)).cell? ⟨w.heap.size, 1, none⟩ = some (.slice none 0 0) := (blk_cell b 1).trans rfl
    have d2 : (((((w5.alloc (.cells #[.int .i64 (-1), .int .i64 (-1)] 89)).alloc (.cells #[.string ⟨#[]⟩, .string ⟨#[]⟩] 90)).alloc (.cells #[.bool false] 4)).alloc (.cells #[.int .i64 (-1), .int .i64 (-1)] 89)).alloc (.cells #[.string ⟨#[]⟩, .string ⟨#[]⟩] 90)).cell? ⟨w.heap.size, 2, none⟩ = some (.slice none 0 0) := (blk_cell b 2).trans rfl
    have f0 : (((((w5.alloc (.cells #[.int .i64 (-1), .int .i64 (-1)] 89)).alloc (.cells #[.string ⟨#[]⟩, .string ⟨#[]⟩] 90)).alloc (.cells #[.bool false] 4)).alloc (.cells #[.int .i64 (-1), .int .i64 (-1)] 89)).alloc (.cells #[.string ⟨#[]⟩, .string ⟨#[]⟩] 90)).frozen? ⟨w.heap.size, 0, none⟩ = false := blk_frozen b 0
    have f1 : (((((w5.alloc (.cells #[.int .i64 (-1), .int .i64 (-1)] 89)).alloc (.cells #[.string ⟨#[]⟩, .string ⟨#[]⟩] 90)).alloc (.cells #[.bool false] 4)).alloc (.cells #[.int .i64 (-1), .int .i64 (-1)] 89)).alloc (.cells #[.string ⟨#[]⟩, .string ⟨#[]⟩] 90)).frozen? ⟨w.heap.size, 1, none⟩ = false := blk_frozen b 1
    have f2 : (((((w5.alloc (.cells #[.int .i64 (-1), .int .i64 (-1)] 89)).alloc (.cells #[.string ⟨#[]⟩, .string ⟨#[]⟩] 90)).alloc (.cells #[.bool false] 4)).alloc (.cells #[.int .i64 (-1), .int .i64 (-1)] 89)).alloc (.cells #[.string ⟨#[]⟩, .string ⟨#[]⟩] 90)).frozen? ⟨w.heap.size, 2, none⟩ = false := blk_frozen b 2)))
 clear d0 d1 d2 f0 f1 f2 kF m1
 have hB6 := below_alloc (below_alloc hB5 (.cells #[.int .i64 (-1), .int .i64 (-1)] 89)) (.cells #[.string ⟨#[]⟩, .string ⟨#[]⟩] 90)
 have hlow := Below.size hB6
 have hlow' : w.heap.size ≤ ((w5.alloc (.cells #[.int .i64 (-1), .int .i64 (-1)] 89)).alloc (.cells #[.string ⟨#[]⟩, .string ⟨#[]⟩] 90)).heap.size := hlow
 have rA := Kd.R_lower (R_one Kd.bool 4 ((w5.alloc (.cells #[.int .i64 (-1), .int .i64 (-1)] 89)).alloc (.cells #[.string ⟨#[]⟩, .string ⟨#[]⟩] 90)) ((w5.alloc (.cells #[.int .i64 (-1), .int .i64 (-1)] 89)).alloc (.cells #[.string ⟨#[]⟩, .string ⟨#[]⟩] 90)).heap.size (Nat.le_refl _) (y := false) (cs := [.bool false]) (okp := fun _ => False) (ok := fun _ => True) rfl (fun _ h => h.elim) trivial) hlow'
 have rN := Kd.R_lower (R_one Pair 89 (((w5.alloc (.cells #[.int .i64 (-1), .int .i64 (-1)] 89)).alloc (.cells #[.string ⟨#[]⟩, .string ⟨#[]⟩] 90)).alloc (.cells #[.bool false] 4)) ((w5.alloc (.cells #[.int .i64 (-1), .int .i64 (-1)] 89)).alloc (.cells #[.string ⟨#[]⟩, .string ⟨#[]⟩] 90)).heap.size (by simp) (y := [-1, -1]) (cs := [.int .i64 (-1), .int .i64 (-1)]) (okp := fun _ => False) (ok := fun _ => True) (Kd.arr_of_cells rfl) (fun _ h => h.elim) trivial) hlow'
 have rO := Kd.R_lower (R_one Text2 90 ((((w5.alloc (.cells #[.int .i64 (-1), .int .i64 (-1)] 89)).alloc (.cells #[.string ⟨#[]⟩, .string ⟨#[]⟩] 90)).alloc (.cells #[.bool false] 4)).alloc (.cells #[.int .i64 (-1), .int .i64 (-1)] 89)) ((w5.alloc (.cells #[.int .i64 (-1), .int .i64 (-1)] 89)).alloc (.cells #[.string ⟨#[]⟩, .string ⟨#[]⟩] 90)).heap.size (by simp <;> omega) (y := [⟨#[]⟩, ⟨#[]⟩]) (cs := [.string ⟨#[]⟩, .string ⟨#[]⟩]) (okp := fun _ => False) (ok := fun _ => True) (Kd.arr_of_cells rfl) (fun _ h => h.elim) trivial) hlow'
 replace rA := Kd.R_below (Kd.R_below rA (below_alloc (Below.refl _ _) (.cells #[.int .i64 (-1), .int .i64 (-1)] 89))) (below_alloc (Below.refl _ _) (.cells #[.string ⟨#[]⟩, .string ⟨#[]⟩] 90))
 replace rN := Kd.R_below rN (below_alloc (Below.refl _ _) (.cells #[.string ⟨#[]⟩, .string ⟨#[]⟩] 90))
 have hB := below_alloc (below_alloc (below_alloc hB6 (.cells #[.bool false] 4)) (.cells #[.int .i64 (-1), .int .i64 (-1)] 89)) (.cells #[.string ⟨#[]⟩, .string ⟨#[]⟩] 90)
 have z0 : ((w5.alloc (.cells #[.int .i64 (-1), .int .i64 (-1)] 89)).alloc (.cells #[.string ⟨#[]⟩, .string ⟨#[]⟩] 90)).heap.size = w5.heap.size + 1 + 1 := by simp
 have z1 : (((w5.alloc (.cells #[.int .i64 (-1), .int .i64 (-1)] 89)).alloc (.cells #[.string ⟨#[]⟩, .string ⟨#[]⟩] 90)).alloc (.cells #[.bool false] 4)).heap.size = w5.heap.size + 1 + 1 + 1 := by simp
 have z2 : ((((w5.alloc (.cells #[.int .i64 (-1), .int .i64 (-1)] 89)).alloc (.cells #[.string ⟨#[]⟩, .string ⟨#[]⟩] 90)).alloc (.cells #[.bool false] 4)).alloc (.cells #[.int .i64 (-1), .int .i64 (-1)] 89)).heap.size = w5.heap.size + 1 + 1 + 1 + 1 := by simp
 rw [z0] at rA
 rw [z1] at rN
 rw [z2] at rO
 clear z0 z1 z2 hlow hlow' hB6
 generalize (((((w5.alloc (.cells #[.int .i64 (-1), .int .i64 (-1)] 89)).alloc (.cells #[.string ⟨#[]⟩, .string ⟨#[]⟩] 90)).alloc (.cells #[.bool false] 4)).alloc (.cells #[.int .i64 (-1), .int .i64 (-1)] 89)).alloc (.cells #[.string ⟨#[]⟩, .string ⟨#[]⟩] 90)) = W3 at *
 have b1 := blk_put b 0 (.slice (some ⟨w5.heap.size + 1 + 1, 0, none⟩) 1 1) rfl
 have b2 := blk_put b1 1 (.slice (some ⟨w5.heap.size + 1 + 1 + 1, 0, none⟩) 1 1) rfl
 have b3 := blk_put b2 2 (.slice (some ⟨w5.heap.size + 1 + 1 + 1 + 1, 0, none⟩) 1 1) rfl
 refine bodyPost_ret (results_ct rfl _ _ w.heap.size 40 #[.slice (some ⟨w5.heap.size + 1 + 1, 0, none⟩) 1 1, .slice (some ⟨w5.heap.size + 1 + 1 + 1, 0, none⟩) 1 1, .slice (some ⟨w5.heap.size + 1 + 1 + 1 + 1, 0, none⟩) 1 1] (0, 0) _ rfl b3 Tryd.underlying40 rfl (by kernel_rfl)) rfl ⟨_, _, _, rfl, ?_, ?_, ?_, ?_⟩
 ·exact Kd.R_set (Kd.R_set (Kd.R_set rA b (by decide) 0 _) b1 (by decide) 1 _) b2 (by decide) 2 _
 ·exact Kd.R_set (Kd.R_set (Kd.R_set rN b (by decide) 0 _) b1 (by decide) 1 _) b2 (by decide) 2 _
 ·exact Kd.R_set (Kd.R_set (Kd.R_set rO b (by decide) 0 _) b1 (by decide) 1 _) b2 (by decide) 2 _
 ·exact ((hB.setCell (Nat.le_refl _) _).setCell (Nat.le_refl _) _).setCell (Nat.le_refl _) _
end Go.Proofs.YtbamnonamdpooaaDoor.Sp
namespace Go.Proofs.YtbamnonamdpooaaDoor.Sb
set_option linter.unusedVariables false
set_option linter.unusedSimpArgs false
open Go.RowKit Go.Proofs.YtbamnonamdpooaaDoorW.PrintWords Go.Proofs.YtbamnonamdpooaaDoorW.PrintLast Go.Proofs.YtbamnonamdpooaaDoorW.PrintMore Go.Proofs.YtbamnonamdpooaaDoor.Mp Go.Proofs.YtbamnonamdpooaaDoor.Kp Go.Proofs.YtbamnonamdpooaaDoor.Ky Go.Proofs.YtbamnonamdpooaaDoor.Mg Go.Proofs.YtbamnonamdpooaaDoor.Tdy Go.Proofs.YtbamnonamdpooaaDoor.Rg Go.Proofs.YtbamnonamdpooaaDoor.Tw
set_option maxHeartbeats 8000000 in
set_option maxRecDepth 100000 in
theorem scribe_dead (tapes : Int) (start : Nat) (accs : List Bool) (rows : List (List Nat)) (hcl : Closed 8 rows accs) (hn : rows.length ≤ 1000000) (hst : start < rows.length)
  (lv : Nat → Bool) (fr : List Int) (hfl : fr.length = rows.length) (hfr : ∀ q, q < rows.length → (fr.getD q (-1) < 0 ↔ lv q = false))
  (w : World) (AA : Option Addr) (ca : Nat) (AN : Option Addr) (cn : Nat) (hA : Kd.C Kd.bool w AA accs.length accs) (hN : Kd.C (Kd.slice 3 (Kd.int .i64)) w AN rows.length (rows.map ints)) (hca : accs.length ≤ ca) (hcn : rows.length ≤ cn)
  (hfar : ∀ W, Below w.heap.size w W → Calls Tryd.prog 115 #[.agg #[.int .i64 tapes, .int .i64 start, .slice AA accs.length ca, .slice AN rows.length cn]] W fun e W' => ∃ v, e = .returned v ∧ Kd.R (Kd.int .i64) 3 W' W.heap.size (fun _ => True) v fr ∧ Below W.heap.size W W')
  (hcol : ∀ W A c (a b : Nat), a ≤ 2 → b ≤ 2 → Kd.C (Kd.int .i64) W A 2 [(a : Int), (b : Int)] → 2 ≤ c → Calls Tryd.prog 116 #[.slice A 2 c] W fun e W' => e = .returned (.int .i64 ((a + 3 * b : Nat) : Int)) ∧ Below W.heap.size W W')
  (hdead : lv start = false) :
  Calls Tryd.prog 54 #[.agg #[.int .i64 tapes, .int .i64 start, .slice AA accs.length ca, .slice AN rows.length cn]] w fun e w' => ∃ vA vN vO, e = .returned (.tuple #[.agg #[vA, vN, vO], .bool true]) ∧
   Kd.R Kd.bool 4 w' w.heap.size (fun _ => True) vA [false] ∧ Kd.R Pair 89 w' w.heap.size (fun _ => True) vN [[-1, -1]] ∧ Kd.R Text2 90 w' w.heap.size (fun _ => True) vO [[⟨#[]⟩, ⟨#[]⟩]] ∧ Below w.heap.size w w' := by
 have hk0 : keyOf Tryd.prog 3 (.int .i64 (start : Int)) = some (.int .i64 (start : Int)) := int_key ⟨by omega, by omega⟩
 have hnf : (fr.getD start (-1) < 0) = True := eq_true ((hfr start hst).2 hdead)
 obtain ⟨fS, hfS⟩ : ∃ x, fr.getD start (-1) = x := ⟨_, rfl⟩
 rw [hfS] at hnf
 replace hfS := Aside0.mk hfS
 go_enter Tryd.func54, Tryd.ntmps54
 go_wp2_with (first
  | (go_at_call 115; go_loud (
    have hB0 := below_alloc (below_alloc (Below.refl w.heap.size w) (.cells #[.int .i64 tapes, .int .i64 start, .slice AA accs.length ca, .slice AN rows.length cn] 77)) (.cells #[.slice none 0 0, .slice none 0 0, .slice none 0 0] 40)
    with_reducible refine (hfar _ hB0).mono ?_
    rintro e w1 ⟨vF, rfl, rF, hb1⟩
    have bM := blk_below (blk_alloc (blk_new w (.cells #[.int .i64 tapes, .int .i64 start, .slice AA accs.length ca, .slice AN rows.length cn] 77)) (.cells #[.slice none 0 0, .slice none 0 0, .slice none 0 0] 40)) hb1
    have bR := blk_below (blk_at (w.alloc (.cells #[.int .i64 tapes, .int .i64 start, .slice AA accs.length ca, .slice AN rows.length cn] 77)) (.cells #[.slice none 0 0, .slice none 0 0, .slice none 0 0] 40) (w.heap.size + 1) (by simp)) hb1
    have hB1 := below_step hB0 hb1
    obtain ⟨AF, cF, hvF⟩ := Kd.R_slice rF
    subst hvF
    rw [hfl] at rF
    obtain ⟨hq1, hq2, hCF⟩ := Kd.R_reads' rF
    clear hq1
    rw [hfl] at hCF
    obtain ⟨adF, rfl, kF⟩ := int_at hCF start (by omega)
    rw [hfS.out] at kF
    have m1 : w1.cell? ⟨w.heap.size, 1, none⟩ = some (.int .i64 (start : Int)) := (blk_cell bM 1).trans rfl
    have hst1 : ((start : Int) < (fr.length : Int)) = True := eq_true (by omega)
    have hst2 : ((start : Int) < (rows.length : Int)) = True := eq_true (by omega)
    have h0s : (0 ≤ (start : Int)) = True := eq_true (by omega)
    have b := blk_alloc (blk_alloc (blk_alloc bR (.cells #[.bool false] 4)) (.cells #[.int .i64 (-1), .int .i64 (-1)] 89)) (.cells #[.string ⟨#[]⟩, .string ⟨#[]⟩] 90)
    have d0 : (((w1.alloc (.cells #[.bool false] 4)).alloc (.cells #[.int .i64 (-1), .int .i64 (-1)] 89)).alloc (.cells #[.string ⟨#[]⟩, .string ⟨#[]⟩] 90)).cell? ⟨w.heap.size + 1, 0, none⟩ = some (.slice none 0 0) := (blk_cell b 0).trans rfl
    have d1 : (((w1.alloc (.cells #[.bool false] 4)).alloc (.cells #[.int .i64 (-1), .int .i64 (-1)] 89)).alloc (.cells #[.string ⟨#[]⟩, .string ⟨#[]⟩] 90)).cell? ⟨w.heap.size + 1, 1, none⟩ = some (.slice none 0 0) := (blk_cell b 1).trans rfl
    have d2 : (((w1.alloc (.cells #[.bool false] 4)).alloc (.cells #[.int .i64 (-1), .int .i64 (-1)] 89)).alloc (.cells #[.string ⟨#[]⟩, .string ⟨#[]⟩] 90)).cell? ⟨w.heap.size + 1, 2, none⟩ = some (.slice none 0 0) := (blk_cell b 2).trans rfl
    have f0 : (((w1.alloc (.cells #[.bool false] 4)).alloc (.cells #[.int .i64 (-1), .int .i64 (-1)] 89)).alloc (.cells #[.string ⟨#[]⟩, .string ⟨#[]⟩] 90)).frozen? ⟨w.heap.size + 1, 0, none⟩ = false := blk_frozen b 0
    have f1 : (((w1.alloc (.cells #[.bool false] 4)).alloc (.cells #[.int .i64 (-1), .int .i64 (-1)] 89)).alloc (.cells #[.string ⟨#[]⟩, .string ⟨#[]⟩] 90)).frozen? ⟨w.heap.size + 1, 1, none⟩ = false := blk_frozen b 1
    have f2 : (((w1.alloc (.cells #[.bool false] 4)).alloc (.cells #[.int .i64 (-1), .int .i64 (-1)] 89)).alloc (.cells #[.string ⟨#[]⟩, .string ⟨#[]⟩] 90)).frozen? ⟨w.heap.size + 1, 2, none⟩ = false := blk_frozen b 2)))
 clear d0 d1 d2 f0 f1 f2 kF m1
 have hlow := Below.size hB1
 have rA := Kd.R_lower (R_one Kd.bool 4 w1 w1.heap.size (Nat.le_refl _) (y := false) (cs := [.bool false]) (okp := fun _ => False) (ok := fun _ => True) rfl (fun _ h => h.elim) trivial) hlow
 have rN := Kd.R_lower (R_one Pair 89 (w1.alloc (.cells #[.bool false] 4)) w1.heap.size (by simp) (y := [-1, -1]) (cs := [.int .i64 (-1), .int .i64 (-1)]) (okp := fun _ => False) (ok := fun _ => True) (Kd.arr_of_cells rfl) (fun _ h => h.elim) trivial) hlow
 have rO := Kd.R_lower (R_one Text2 90 ((w1.alloc (.cells #[.bool false] 4)).alloc (.cells #[.int .i64 (-1), .int .i64 (-1)] 89)) w1.heap.size (by simp <;> omega) (y := [⟨#[]⟩, ⟨#[]⟩]) (cs := [.string ⟨#[]⟩, .string ⟨#[]⟩]) (okp := fun _ => False) (ok := fun _ => True) (Kd.arr_of_cells rfl) (fun _ h => h.elim) trivial) hlow
 replace rA := Kd.R_below (Kd.R_below rA (below_alloc (Below.refl _ _) (.cells #[.int .i64 (-1), .int .i64 (-1)] 89))) (below_alloc (Below.refl _ _) (.cells #[.string ⟨#[]⟩, .string ⟨#[]⟩] 90))
 replace rN := Kd.R_below rN (below_alloc (Below.refl _ _) (.cells #[.string ⟨#[]⟩, .string ⟨#[]⟩] 90))
 have hB := below_alloc (below_alloc (below_alloc hB1 (.cells #[.bool false] 4)) (.cells #[.int .i64 (-1), .int .i64 (-1)] 89)) (.cells #[.string ⟨#[]⟩, .string ⟨#[]⟩] 90)
 have z1 : (w1.alloc (.cells #[.bool false] 4)).heap.size = w1.heap.size + 1 := by simp
 have z2 : ((w1.alloc (.cells #[.bool false] 4)).alloc (.cells #[.int .i64 (-1), .int .i64 (-1)] 89)).heap.size = w1.heap.size + 1 + 1 := by simp
 rw [z1] at rN
 rw [z2] at rO
 clear z1 z2
 generalize (((w1.alloc (.cells #[.bool false] 4)).alloc (.cells #[.int .i64 (-1), .int .i64 (-1)] 89)).alloc (.cells #[.string ⟨#[]⟩, .string ⟨#[]⟩] 90)) = W3 at *
 have b1 := blk_put b 0 (.slice (some ⟨w1.heap.size, 0, none⟩) 1 1) rfl
 have b2 := blk_put b1 1 (.slice (some ⟨w1.heap.size + 1, 0, none⟩) 1 1) rfl
 have b3 := blk_put b2 2 (.slice (some ⟨w1.heap.size + 1 + 1, 0, none⟩) 1 1) rfl
 refine bodyPost_ret (results_ct rfl _ _ (w.heap.size + 1) 40 #[.slice (some ⟨w1.heap.size, 0, none⟩) 1 1, .slice (some ⟨w1.heap.size + 1, 0, none⟩) 1 1, .slice (some ⟨w1.heap.size + 1 + 1, 0, none⟩) 1 1] (0, 0) _ rfl b3 Tryd.underlying40 rfl (by kernel_rfl)) rfl ⟨_, _, _, rfl, ?_, ?_, ?_, ?_⟩
 ·exact Kd.R_set (Kd.R_set (Kd.R_set rA b (by decide) 0 _) b1 (by decide) 1 _) b2 (by decide) 2 _
 ·exact Kd.R_set (Kd.R_set (Kd.R_set rN b (by decide) 0 _) b1 (by decide) 1 _) b2 (by decide) 2 _
 ·exact Kd.R_set (Kd.R_set (Kd.R_set rO b (by decide) 0 _) b1 (by decide) 1 _) b2 (by decide) 2 _
 ·exact ((hB.setCell (by simp) _).setCell (by simp) _).setCell (by simp) _
end Go.Proofs.YtbamnonamdpooaaDoor.Sb
namespace Go.Proofs.YtbamnonamdpooaaDoor.PC1
open Go.RowKit Go.Proofs.YtbamnonamdpooaaDoorW.PrintWords Go.Proofs.YtbamnonamdpooaaDoorW.PrintLast Go.Proofs.YtbamnonamdpooaaDoorW.PrintMore Go.Proofs.YtbamnonamdpooaaDoor.PB1
attribute [local go_sem] max2_int min2_int max_two min_two max_three min_three max_four min_four   -- for this text's walks alone
set_option linter.unusedVariables false
set_option linter.unusedSimpArgs false
def errW : Option Int → Value
 | none => .nilIface
 | some c => .iface 0 (.int .i64 c)
theorem errW_none : errW none = .nilIface := rfl
theorem errW_some (c : Int) : errW (some c) = .iface 0 (.int .i64 c) := rfl
theorem info3 : (Tryd.prog.info? 3).map (fun i => (i.zero, i.size, i.bytes)) = some (some (.int .i64 0), 1, 8) := by kernel_rfl
theorem info4 : (Tryd.prog.info? 4).map (fun i => (i.zero, i.size, i.bytes)) = some (some (.bool false), 1, 1) := by kernel_rfl
def rd_L1 (xs : List (List Int)) (i : Int) : (List Int) := xs.getD i.toNat ([] : List Int)
theorem at_L1 {w : World} {A : Option Addr} {n : Nat} {xs : List (List Int)} (h : Kd.C (Kd.slice 3 (Kd.int .i64)) w A n xs) (i : Int) (h0 : 0 ≤ i) (h1 : i < n) : ∃ ad A0 c0, A = some ad ∧ w.cell? (ad.add i.toNat) = some (.slice A0 (rd_L1 xs i).length c0) ∧ (rd_L1 xs i).length ≤ c0 ∧ (Kd.int .i64).C w A0 (rd_L1 xs i).length (rd_L1 xs i) := by
 obtain ⟨ad, c, e, _, hK, hc0⟩ := Kd.C_get h ([] : List Int) i h0 h1
 have hc : ∀ j u, c[j]? = some u → w.cell? (ad.add (i.toNat * 1 + j)) = some u := hc0
 obtain ⟨A0, c0, rfl, l0, g0⟩ := hK
 exact ⟨ad, A0, c0, e, by have hq := hc 0 _ rfl; rwa [Nat.mul_one, Nat.add_zero] at hq, l0, g0⟩
def rd_L3 (xs : List (List Int)) (i : Int) : (List Int) := xs.getD i.toNat ([] : List Int)
theorem at_L3 {w : World} {A : Option Addr} {n : Nat} {xs : List (List Int)} (h : Kd.C (Kd.slice 2 (Kd.int .i64)) w A n xs) (i : Int) (h0 : 0 ≤ i) (h1 : i < n) : ∃ ad A0 c0, A = some ad ∧ w.cell? (ad.add i.toNat) = some (.slice A0 (rd_L3 xs i).length c0) ∧ (rd_L3 xs i).length ≤ c0 ∧ (Kd.int .i64).C w A0 (rd_L3 xs i).length (rd_L3 xs i) := by
 obtain ⟨ad, c, e, _, hK, hc0⟩ := Kd.C_get h ([] : List Int) i h0 h1
 have hc : ∀ j u, c[j]? = some u → w.cell? (ad.add (i.toNat * 1 + j)) = some u := hc0
 obtain ⟨A0, c0, rfl, l0, g0⟩ := hK
 exact ⟨ad, A0, c0, e, by have hq := hc 0 _ rfl; rwa [Nat.mul_one, Nat.add_zero] at hq, l0, g0⟩
end Go.Proofs.YtbamnonamdpooaaDoor.PC1
namespace Go.Proofs.YtbamnonamdpooaaDoor.PC1
open Go.RowKit Go.Proofs.YtbamnonamdpooaaDoorW.PrintWords Go.Proofs.YtbamnonamdpooaaDoorW.PrintLast Go.Proofs.YtbamnonamdpooaaDoorW.PrintMore Go.Proofs.YtbamnonamdpooaaDoor.PB1
attribute [local go_sem] max2_int min2_int max_two min_two max_three min_three max_four min_four   -- for this text's walks alone
set_option linter.unusedVariables false
set_option linter.unusedSimpArgs false
/-! ### impl_machine_far: function 115 -/
mutual
def impl_machine_far.l0 : Nat → List Int → List Bool → Int → Int → Int → Int → List Bool → List (List Int) → Option (List Int)
 | 0, _, _, _, _, _, _, _, _ => none
 | k + 1, x3, x16, x17, x18, x102000, x102001, x102002, x102003 => if x18 < x17 then (if 0 ≤ x18 then (if x18 < (x16.length : Int) then (if rdOf false x16 x18 = true then (impl_machine_far.l0 k x3 x16 x17 (wrap64 (x18 + 1)) x102000 x102001 x102002 x102003) else (if x18 < (x3.length : Int) then (impl_machine_far.l0 k (x3.set (x18 : Int).toNat (-1)) x16 x17 (wrap64 (x18 + 1)) x102000 x102001 x102002 x102003) else (none))) else (none)) else (none)) else (impl_machine_far.l1 k x3 1 x102000 x102001 x102002 x102003)
def impl_machine_far.l1 : Nat → List Int → Int → Int → Int → List Bool → List (List Int) → Option (List Int)
 | 0, _, _, _, _, _, _ => none
 | k + 1, x3, x6, x102000, x102001, x102002, x102003 => if x6 ≤ (x3.length : Int) then (impl_machine_far.l2 k x3 x6 x102003 (x102003.length : Int) 0 x102000 x102001 x102002 x102003) else (some x3)
def impl_machine_far.l2 : Nat → List Int → Int → List (List Int) → Int → Int → Int → Int → List Bool → List (List Int) → Option (List Int)
 | 0, _, _, _, _, _, _, _, _, _ => none
 | k + 1, x3, x6, x36, x37, x38, x102000, x102001, x102002, x102003 => if x38 < x37 then (if 0 ≤ x38 then (if x38 < (x36.length : Int) then (if x38 < (x3.length : Int) then (if (rd x3 x38) ≥ 0 then (impl_machine_far.l2 k x3 x6 x36 x37 (wrap64 (x38 + 1)) x102000 x102001 x102002 x102003) else (impl_machine_far.l3 k x3 x6 x38 x36 x37 x38 (rd_L1 x36 x38) ((rd_L1 x36 x38).length : Int) 0 x102000 x102001 x102002 x102003)) else (none)) else (none)) else (none)) else (impl_machine_far.l1 k x3 (wrap64 (x6 + 1)) x102000 x102001 x102002 x102003)
def impl_machine_far.l3 : Nat → List Int → Int → Int → List (List Int) → Int → Int → List Int → Int → Int → Int → Int → List Bool → List (List Int) → Option (List Int)
 | 0, _, _, _, _, _, _, _, _, _, _, _, _, _ => none
 | k + 1, x3, x6, x7, x36, x37, x38, x48, x49, x50, x102000, x102001, x102002, x102003 => if x50 < x49 then (if 0 ≤ x50 then (if x50 < (x48.length : Int) then (if 0 ≤ (rd x48 x50) then (if (rd x48 x50) < (x3.length : Int) then (if (rd x3 (rd x48 x50)) = (wrap64 (x6 - 1)) then (if 0 ≤ x7 then (if x7 < (x3.length : Int) then (impl_machine_far.l2 k (x3.set (x7 : Int).toNat x6) x6 x36 x37 (wrap64 (x38 + 1)) x102000 x102001 x102002 x102003) else (none)) else (none)) else (impl_machine_far.l3 k x3 x6 x7 x36 x37 x38 x48 x49 (wrap64 (x50 + 1)) x102000 x102001 x102002 x102003)) else (none)) else (none)) else (none)) else (none)) else (impl_machine_far.l2 k x3 x6 x36 x37 (wrap64 (x38 + 1)) x102000 x102001 x102002 x102003)
end
def impl_machine_far.f (k : Nat) (a0_0 : Int) (a0_1 : Int) (l0_2 : List Bool) (l0_3 : List (List Int)) : Option (List Int) := if 0 ≤ (l0_2.length : Int) then (if ((l0_2.length : Int) : Int).toNat ≤ 35184372088832 then (impl_machine_far.l0 k (List.replicate ((l0_2.length : Int) : Int).toNat 0) l0_2 (l0_2.length : Int) 0 a0_0 a0_1 l0_2 l0_3) else (none)) else (none)
theorem impl_machine_far.mono_l : ∀ k, (∀ y0 y1 y2 y3 y4 y5 y6 y7, LeO (impl_machine_far.l0 k y0 y1 y2 y3 y4 y5 y6 y7) (impl_machine_far.l0 (k + 1) y0 y1 y2 y3 y4 y5 y6 y7)) ∧ (∀ y0 y1 y2 y3 y4 y5, LeO (impl_machine_far.l1 k y0 y1 y2 y3 y4 y5) (impl_machine_far.l1 (k + 1) y0 y1 y2 y3 y4 y5)) ∧ (∀ y0 y1 y2 y3 y4 y5 y6 y7 y8, LeO (impl_machine_far.l2 k y0 y1 y2 y3 y4 y5 y6 y7 y8) (impl_machine_far.l2 (k + 1) y0 y1 y2 y3 y4 y5 y6 y7 y8)) ∧ (∀ y0 y1 y2 y3 y4 y5 y6 y7 y8 y9 y10 y11 y12, LeO (impl_machine_far.l3 k y0 y1 y2 y3 y4 y5 y6 y7 y8 y9 y10 y11 y12) (impl_machine_far.l3 (k + 1) y0 y1 y2 y3 y4 y5 y6 y7 y8 y9 y10 y11 y12))
 | 0 => ⟨fun _ _ _ _ _ _ _ _ r h => by simp [impl_machine_far.l0] at h, fun _ _ _ _ _ _ r h => by simp [impl_machine_far.l1] at h, fun _ _ _ _ _ _ _ _ _ r h => by simp [impl_machine_far.l2] at h, fun _ _ _ _ _ _ _ _ _ _ _ _ _ r h => by simp [impl_machine_far.l3] at h⟩
 | k + 1 => by
  obtain ⟨ih0, ih1, ih2, ih3⟩ := impl_machine_far.mono_l k
  refine ⟨?_, ?_, ?_, ?_⟩
  ·intro y0 y1 y2 y3 y4 y5 y6 y7
   unfold impl_machine_far.l0
   repeat' first
   | (with_reducible exact ih0 _ _ _ _ _ _ _ _)
   | (with_reducible exact ih1 _ _ _ _ _ _)
   | (with_reducible exact ih2 _ _ _ _ _ _ _ _ _)
   | (with_reducible exact ih3 _ _ _ _ _ _ _ _ _ _ _ _ _)
   | (with_reducible exact LeO.refl _)
   | (with_reducible exact LeO.none _)
   | (with_reducible refine LeO.ite ?_ ?_)
   | (with_reducible refine LeO.bind ?_ (fun _ => ?_))
   | exact ih0 _ _ _ _ _ _ _ _
   | exact ih1 _ _ _ _ _ _
   | exact ih2 _ _ _ _ _ _ _ _ _
   | exact ih3 _ _ _ _ _ _ _ _ _ _ _ _ _
   | exact LeO.none _
   | refine LeO.ite ?_ ?_
   | refine LeO.bind ?_ (fun _ => ?_)
  ·intro y0 y1 y2 y3 y4 y5
   unfold impl_machine_far.l1
   repeat' first
   | (with_reducible exact ih0 _ _ _ _ _ _ _ _)
   | (with_reducible exact ih1 _ _ _ _ _ _)
   | (with_reducible exact ih2 _ _ _ _ _ _ _ _ _)
   | (with_reducible exact ih3 _ _ _ _ _ _ _ _ _ _ _ _ _)
   | (with_reducible exact LeO.refl _)
   | (with_reducible exact LeO.none _)
   | (with_reducible refine LeO.ite ?_ ?_)
   | (with_reducible refine LeO.bind ?_ (fun _ => ?_))
   | exact ih0 _ _ _ _ _ _ _ _
   | exact ih1 _ _ _ _ _ _
   | exact ih2 _ _ _ _ _ _ _ _ _
   | exact ih3 _ _ _ _ _ _ _ _ _ _ _ _ _
   | exact LeO.none _
   | refine LeO.ite ?_ ?_
   | refine LeO.bind ?_ (fun _ => ?_)
  ·intro y0 y1 y2 y3 y4 y5 y6 y7 y8
   unfold impl_machine_far.l2
   repeat' first
   | (with_reducible exact ih0 _ _ _ _ _ _ _ _)
   | (with_reducible exact ih1 _ _ _ _ _ _)
   | (with_reducible exact ih2 _ _ _ _ _ _ _ _ _)
   | (with_reducible exact ih3 _ _ _ _ _ _ _ _ _ _ _ _ _)
   | (with_reducible exact LeO.refl _)
   | (with_reducible exact LeO.none _)
   | (with_reducible refine LeO.ite ?_ ?_)
   | (with_reducible refine LeO.bind ?_ (fun _ => ?_))
   | exact ih0 _ _ _ _ _ _ _ _
   | exact ih1 _ _ _ _ _ _
   | exact ih2 _ _ _ _ _ _ _ _ _
   | exact ih3 _ _ _ _ _ _ _ _ _ _ _ _ _
   | exact LeO.none _
   | refine LeO.ite ?_ ?_
   | refine LeO.bind ?_ (fun _ => ?_)
  ·intro y0 y1 y2 y3 y4 y5 y6 y7 y8 y9 y10 y11 y12
   unfold impl_machine_far.l3
   repeat' first
   | (with_reducible exact ih0 _ _ _ _ _ _ _ _)
   | (with_reducible exact ih1 _ _ _ _ _ _)
   | (with_reducible exact ih2 _ _ _ _ _ _ _ _ _)
   | (with_reducible exact ih3 _ _ _ _ _ _ _ _ _ _ _ _ _)
   | (with_reducible exact LeO.refl _)
   | (with_reducible exact LeO.none _)
   | (with_reducible refine LeO.ite ?_ ?_)
   | (with_reducible refine LeO.bind ?_ (fun _ => ?_))
   | exact ih0 _ _ _ _ _ _ _ _
   | exact ih1 _ _ _ _ _ _
   | exact ih2 _ _ _ _ _ _ _ _ _
   | exact ih3 _ _ _ _ _ _ _ _ _ _ _ _ _
   | exact LeO.none _
   | refine LeO.ite ?_ ?_
   | refine LeO.bind ?_ (fun _ => ?_)
theorem impl_machine_far.mono : ∀ a0 a1 a2 a3 k, LeO (impl_machine_far.f k a0 a1 a2 a3) (impl_machine_far.f (k + 1) a0 a1 a2 a3) := by
 intro a0 a1 a2 a3 k
 obtain ⟨ih0, ih1, ih2, ih3⟩ := impl_machine_far.mono_l k
 unfold impl_machine_far.f
 repeat' first
   | (with_reducible exact ih0 _ _ _ _ _ _ _ _)
   | (with_reducible exact ih1 _ _ _ _ _ _)
   | (with_reducible exact ih2 _ _ _ _ _ _ _ _ _)
   | (with_reducible exact ih3 _ _ _ _ _ _ _ _ _ _ _ _ _)
   | (with_reducible exact LeO.refl _)
   | (with_reducible exact LeO.none _)
   | (with_reducible refine LeO.ite ?_ ?_)
   | (with_reducible refine LeO.bind ?_ (fun _ => ?_))
   | exact ih0 _ _ _ _ _ _ _ _
   | exact ih1 _ _ _ _ _ _
   | exact ih2 _ _ _ _ _ _ _ _ _
   | exact ih3 _ _ _ _ _ _ _ _ _ _ _ _ _
   | exact LeO.none _
   | refine LeO.ite ?_ ?_
   | refine LeO.bind ?_ (fun _ => ?_)
set_option maxHeartbeats 8000000 in
set_option maxRecDepth 100000 in
theorem impl_machine_far.calls (k : Nat) (a0_0 : Int) (a0_1 : Int) (A0_2 : Option Addr) (c0_2 : Nat) (l0_2 : List Bool) (A0_3 : Option Addr) (c0_3 : Nat) (l0_3 : List (List Int)) (r : List Int) (w : World) (hr0_2 : Kd.C Kd.bool w A0_2 l0_2.length l0_2) (hc0_2 : l0_2.length ≤ c0_2) (hr0_3 : Kd.C (Kd.slice 3 (Kd.int .i64)) w A0_3 l0_3.length l0_3) (hc0_3 : l0_3.length ≤ c0_3) (h : impl_machine_far.f k a0_0 a0_1 l0_2 l0_3 = some r) :
  Calls Tryd.prog 115 #[.agg #[.int .i64 a0_0, .int .i64 a0_1, .slice A0_2 l0_2.length c0_2, .slice A0_3 l0_3.length c0_3]] w fun e w' => ∃ v0_ : Value, e = .returned (v0_) ∧ Kd.R (Kd.int .i64) 3 w' w.heap.size (fun _ => True) v0_ r ∧ Below w.heap.size w w' := by
 have hu77 := Tryd.underlying77
 have HR0_2 := Aside0.mk hr0_2
 have HC0_2 := Aside0.mk hc0_2
 clear hr0_2 hc0_2
 have HR0_3 := Aside0.mk hr0_3
 have HC0_3 := Aside0.mk hc0_3
 clear hr0_3 hc0_3
 have HB := Aside0.mk (Below.refl w.heap.size w)
 have H : (if 0 ≤ (l0_2.length : Int) then (if ((l0_2.length : Int) : Int).toNat ≤ 35184372088832 then (impl_machine_far.l0 k (List.replicate ((l0_2.length : Int) : Int).toNat 0) l0_2 (l0_2.length : Int) 0 a0_0 a0_1 l0_2 l0_3) else (none)) else (none)) = some r := h
 clear h
 by_cases c2 : 0 ≤ (l0_2.length : Int)
 ·rw [if_pos c2] at H
  have c2b0 := eq_true c2
  have c2b1 : decide (0 ≤ (l0_2.length : Int)) = true := decide_eq_true c2
  clear c2
  by_cases c3 : ((l0_2.length : Int) : Int).toNat ≤ 35184372088832
  ·rw [if_pos c3] at H
   have c3b0 := eq_true c3
   have c3b1 : decide (((l0_2.length : Int) : Int).toNat ≤ 35184372088832) = true := decide_eq_true c3
   clear c3
   obtain ⟨y102, hy102⟩ : ∃ y_ : List Int, y_ = (List.replicate ((l0_2.length : Int) : Int).toNat 0) := ⟨_, rfl⟩
   replace H : (impl_machine_far.l0 k y102 l0_2 (l0_2.length : Int) 0 a0_0 a0_1 l0_2 l0_3) = some r := by first | (rw [hy102]; with_reducible exact H) | (have H2_ := (Option.bind_some _ _).symm.trans H; rw [hy102]; with_reducible exact H2_) | (have H2_ := (Option.bind_some _ _).symm.trans H; with_reducible exact H2_) | with_reducible exact H | (rw [hy102]; exact H) | exact H
   have Ny102 := Aside0.mk hy102
   clear hy102
   have H' := Aside0.mk H
   clear H
   go_enter Tryd.func115, Tryd.ntmps115
   go_wp2_with (first | ((with_reducible refine gate_dst (N := 1) rfl ?_); refine box_event ?hg (N := 1) ?hd (cs := #[.int .i64 a0_0, .int .i64 a0_1, .slice A0_2 l0_2.length c0_2, .slice A0_3 l0_3.length c0_3]) (t := 77) ?hr ?_; (case hd => rfl); (case hg => rfl); (case hr => first | (go_simp; done) | (go_simp; rfl)); intro gb101 hg w4 hbox hb; have n0_ := Aside0.mk (below_step (by repeat (first | (with_reducible first | exact HB.out | apply below_alloc | apply pw_below_drewN | apply below_drew1) | exact HB.out)) hb); have n1_ := Aside0.mk (hbox); have n2_ := Aside0.mk ((by rw [hg]; exact (below_size (by repeat (first | (with_reducible first | exact HB.out | apply below_alloc | apply pw_below_drewN | apply below_drew1) | exact HB.out))) : w.heap.size ≤ gb101)); have n3_ := Aside0.mk ((by rw [hg]; exact (below_size (by repeat (first | (with_reducible first | exact HB.out | apply below_alloc | apply pw_below_drewN | apply below_drew1) | exact HB.out))) : w.heap.size ≤ gb101)); clear HB; have HB := n0_; have BK101 := n1_; have GW101 := n2_; have GE101 := n3_; clear n0_ n1_ n2_ n3_; clear hb hbox hg; have hcz5_0 : w4.cell? ⟨gb101, 0, none⟩ = some (.int .i64 a0_0) := (blk_cell BK101.out 0).trans rfl; have hcz5_1 : w4.cell? ⟨gb101, 1, none⟩ = some (.int .i64 a0_1) := (blk_cell BK101.out 1).trans rfl; have hcz5_2 : w4.cell? ⟨gb101, 2, none⟩ = some (.slice A0_2 l0_2.length c0_2) := (blk_cell BK101.out 2).trans rfl; have hcz5_3 : w4.cell? ⟨gb101, 3, none⟩ = some (.slice A0_3 l0_3.length c0_3) := (blk_cell BK101.out 3).trans rfl; have hfz5_0 := blk_frozen BK101.out 0; have hfz5_1 := blk_frozen BK101.out 1; have hfz5_2 := blk_frozen BK101.out 2; have hfz5_3 := blk_frozen BK101.out 3) | ((with_reducible refine gate_dst (N := 14) rfl ?_); refine Kd.R_make (Kd.int .i64) _ 3 rfl (N := 14) rfl 97 _ _ rfl (l0_2.length : Int) rfl rfl Tryd.underlying97 (.int .i64 0) 8 info3 rfl (by decide) (by omega) 0 (ok := fun _ => True) (okp := fun _ => True) rfl (fun _ hk => hk) trivial (of_decide_eq_true (by first | (with_reducible assumption) | assumption)) (Nat.le_trans (Nat.mul_le_mul_right _ (of_decide_eq_true (by first | (with_reducible assumption) | assumption) : (l0_2.length : Int).toNat ≤ 35184372088832)) (by omega)) (Below.refl _ _) (Nat.le_refl _) ?_; intro v103 w6 ho7 hb hg_ hnew_; clear hg_ hnew_; (first | rw [← Ny102.out] at ho7 | (simp only [Int.reduceToNat] at ho7; rw [← Ny102.out] at ho7)); have n0_ := Aside0.mk (Kd.R_lower ho7 (below_size (by repeat (first | (with_reducible first | exact HB.out | apply below_alloc | apply pw_below_drewN | apply below_drew1 | refine below_set ?_ GE101.out) | exact HB.out)))); have n1_ := Aside0.mk (blk_below (g := gb101) (o := .cells #[.int .i64 a0_0, .int .i64 a0_1, .slice A0_2 l0_2.length c0_2, .slice A0_3 l0_3.length c0_3] 77 (0, 0)) (by (with_reducible repeat (first | refine blk_drewN ?_ _ | refine blk_drew ?_ | refine blk_alloc ?_ _)); exact BK101.out) hb); have n2_ := Aside0.mk (below_step (by repeat (first | (with_reducible first | exact HB.out | apply below_alloc | apply pw_below_drewN | apply below_drew1 | refine below_set ?_ GE101.out) | exact HB.out)) hb); clear BK101; clear HB; have HO104 := n0_; have BK101 := n1_; have HB := n2_; clear n0_ n1_ n2_; clear hb ho7; have hcz8_0 : w6.cell? ⟨gb101, 0, none⟩ = some (.int .i64 a0_0) := (blk_cell BK101.out 0).trans rfl; have hcz8_1 : w6.cell? ⟨gb101, 1, none⟩ = some (.int .i64 a0_1) := (blk_cell BK101.out 1).trans rfl; have hcz8_2 : w6.cell? ⟨gb101, 2, none⟩ = some (.slice A0_2 l0_2.length c0_2) := (blk_cell BK101.out 2).trans rfl; have hcz8_3 : w6.cell? ⟨gb101, 3, none⟩ = some (.slice A0_3 l0_3.length c0_3) := (blk_cell BK101.out 3).trans rfl; have hfz8_0 := blk_frozen BK101.out 0; have hfz8_1 := blk_frozen BK101.out 1; have hfz8_2 := blk_frozen BK101.out 2; have hfz8_3 := blk_frozen BK101.out 3))
   go_loopg [18] k (fun kq v18 w' => ∃ (x3_1 : List Int) (x18_1 : Int), v18 = .int .i64 x18_1 ∧ Aside0 (impl_machine_far.l0 kq x3_1 l0_2 (l0_2.length : Int) x18_1 a0_0 a0_1 l0_2 l0_3 = some r) ∧ Aside0 (kq ≤ k) ∧ Aside0 (Kd.R (Kd.int .i64) 3 w' w.heap.size (fun _ => True) v103 x3_1) ∧ Aside0 (w'.heap[gb101]? = some (.cells #[.int .i64 a0_0, .int .i64 a0_1, (.slice A0_2 l0_2.length c0_2), (.slice A0_3 l0_3.length c0_3)] 77 (0, 0))) ∧ Aside0 (Below w.heap.size w w'))
   case atStart => exact ⟨(y102), (0), (by first | rfl | (simp; done) | (simp [*]; done) | (simp [wrap64]; done)), H', ⟨Nat.le_refl _⟩, ⟨by (with_reducible repeat (first | apply Kd.R_alloc | apply Kd.R_drewN | apply Kd.R_drew)); exact HO104.out⟩, ⟨by (with_reducible repeat (first | refine blk_drewN ?_ _ | refine blk_drew ?_ | refine blk_alloc ?_ _)); exact BK101.out⟩, ⟨by repeat (first | (with_reducible first | exact HB.out | apply below_alloc | apply pw_below_drewN | apply below_drew1 | refine below_set ?_ GE101.out) | exact HB.out)⟩⟩
   case round =>
    clear H'
    try clear c1
    try clear c2
    try clear c2b0
    try clear c2b1
    try clear p2
    try clear c3
    try clear c3b0
    try clear c3b1
    try clear p6
    try clear hcz5_0
    try clear hcz5_1
    try clear hcz5_2
    try clear hcz5_3
    try clear hcz8_0
    try clear hcz8_1
    try clear hcz8_2
    try clear hcz8_3
    try clear hfz5_0
    try clear hfz5_1
    try clear hfz5_2
    try clear hfz5_3
    try clear hfz8_0
    try clear hfz8_1
    try clear hfz8_2
    try clear hfz8_3
    obtain ⟨x3_1, x18_1, rfl, HA, HK1, HO_3, BK101, HB⟩ := hrel
    cases gk with
    | zero => exact absurd HA.out (by simp [impl_machine_far.l0])
    | succ k1 =>
     have H := HA.out
     clear HA
     simp only [impl_machine_far.l0] at H
     by_cases c9 : x18_1 < (l0_2.length : Int)
     ·rw [if_pos c9] at H
      have c9b0 : decide (x18_1 < (l0_2.length : Int)) = true := decide_eq_true c9
      clear c9
      by_cases c10 : 0 ≤ x18_1
      ·rw [if_pos c10] at H
       have c10b0 : decide (0 ≤ x18_1) = true := decide_eq_true c10
       clear c10
       by_cases c11 : x18_1 < (l0_2.length : Int)
       ·rw [if_pos c11] at H
        have c11b0 : decide (x18_1 < (l0_2.length : Int)) = true := decide_eq_true c11
        clear c11
        obtain ⟨bq12, hbq12⟩ : ∃ b_ : Bool, b_ = (rdOf false l0_2 x18_1) := ⟨_, rfl⟩
        replace H : (if bq12 = true then (impl_machine_far.l0 k1 x3_1 l0_2 (l0_2.length : Int) (wrap64 (x18_1 + 1)) a0_0 a0_1 l0_2 l0_3) else (if x18_1 < (x3_1.length : Int) then (impl_machine_far.l0 k1 (x3_1.set (x18_1 : Int).toNat (-1)) l0_2 (l0_2.length : Int) (wrap64 (x18_1 + 1)) a0_0 a0_1 l0_2 l0_3) else (none))) = some r := by rw [← hbq12] at H; exact H
        have Nbq12 := Aside0.mk hbq12
        clear hbq12
        by_cases c13 : bq12 = true
        ·subst c13
         have H1 : (impl_machine_far.l0 k1 x3_1 l0_2 (l0_2.length : Int) (wrap64 (x18_1 + 1)) a0_0 a0_1 l0_2 l0_3) = some r := by rw [if_pos rfl] at H; exact H
         clear H
         have H := H1
         clear H1
         have H' := Aside0.mk H
         clear H
         have p105 : 0 ≤ (x18_1 : Int) := of_decide_eq_true (by first | (with_reducible assumption) | assumption)
         have q105 : x18_1 < (l0_2.length : Int) := of_decide_eq_true (by first | (with_reducible assumption) | assumption)
         obtain ⟨ad105, e105, hx105_0⟩ := Kd.at_bool HR0_2.out x18_1 p105 q105
         (try rw [← Nbq12.out] at hx105_0)
         cases e105
         replace hx105_0 := (HB.out.cell (World.block_lt_of_cell? w _ hx105_0)).trans hx105_0
         replace p105 := eq_true p105
         replace q105 := eq_true q105
         go_wp2
         go_roundg k1
         case measure => have := HK1.out; omega
         case rel => exact ⟨(x3_1), (wrap64 (x18_1 + 1)), (by first | rfl | (simp; done) | (simp [*]; done) | (simp [wrap64]; done)), H', ⟨by have := HK1.out; omega⟩, ⟨by (with_reducible repeat (first | apply Kd.R_alloc | apply Kd.R_drewN | apply Kd.R_drew)); exact HO_3.out⟩, ⟨by (with_reducible repeat (first | refine blk_drewN ?_ _ | refine blk_drew ?_ | refine blk_alloc ?_ _)); exact BK101.out⟩, ⟨by repeat (first | (with_reducible first | exact HB.out | apply below_alloc | apply pw_below_drewN | apply below_drew1 | refine below_set ?_ GE101.out) | exact HB.out)⟩⟩
        ·replace c13 := Bool.eq_false_iff.mpr c13
         subst c13
         have H1 : (if x18_1 < (x3_1.length : Int) then (impl_machine_far.l0 k1 (x3_1.set (x18_1 : Int).toNat (-1)) l0_2 (l0_2.length : Int) (wrap64 (x18_1 + 1)) a0_0 a0_1 l0_2 l0_3) else (none)) = some r := by rw [if_neg (show ¬ (false = true) by decide)] at H; exact H
         clear H
         have H := H1
         clear H1
         by_cases c14 : x18_1 < (x3_1.length : Int)
         ·rw [if_pos c14] at H
          have c14b0 : decide (x18_1 < (x3_1.length : Int)) = true := decide_eq_true c14
          clear c14
          obtain ⟨y106, hy106⟩ : ∃ y_ : List Int, y_ = (x3_1.set (x18_1 : Int).toNat (-1)) := ⟨_, rfl⟩
          replace H : (impl_machine_far.l0 k1 y106 l0_2 (l0_2.length : Int) (wrap64 (x18_1 + 1)) a0_0 a0_1 l0_2 l0_3) = some r := by first | (rw [hy106]; with_reducible exact H) | (have H2_ := (Option.bind_some _ _).symm.trans H; rw [hy106]; with_reducible exact H2_) | (have H2_ := (Option.bind_some _ _).symm.trans H; with_reducible exact H2_) | with_reducible exact H | (rw [hy106]; exact H) | exact H
          have Ny106 := Aside0.mk hy106
          clear hy106
          have H' := Aside0.mk H
          clear H
          have p105 : 0 ≤ (x18_1 : Int) := of_decide_eq_true (by first | (with_reducible assumption) | assumption)
          have q105 : x18_1 < (l0_2.length : Int) := of_decide_eq_true (by first | (with_reducible assumption) | assumption)
          obtain ⟨ad105, e105, hx105_0⟩ := Kd.at_bool HR0_2.out x18_1 p105 q105
          (try rw [← Nbq12.out] at hx105_0)
          cases e105
          replace hx105_0 := (HB.out.cell (World.block_lt_of_cell? w _ hx105_0)).trans hx105_0
          replace p105 := eq_true p105
          replace q105 := eq_true q105
          have p15 : 0 ≤ (x18_1 : Int) := of_decide_eq_true (by first | (with_reducible assumption) | assumption)
          have q15 : (x18_1 : Int) < ((x3_1.length : Int) : Int) := of_decide_eq_true (by first | (with_reducible assumption) | assumption)
          obtain ⟨go15, co15, eo15, gb15, gl15, cl15, HG15⟩ := Kd.R_form HO_3.out (by omega)
          (first | cases eo15 | (injection eo15 with ea_ en_ ec_; (first | subst ea_ | (injection ea_ with ea_; subst ea_)); subst ec_; clear en_))
          have GB15 := Aside0.mk gb15
          have GG15 := Aside0.mk HG15
          clear gb15 gl15 HG15
          obtain ⟨hx15_0, hf15_0⟩ := Kd.R_celln 0 HO_3.out (x18_1 : Int) p15 q15
          replace p15 := eq_true p15
          replace q15 := eq_true q15
          have HP16 := Kd.R_putg HO_3.out (x18_1 : Int) (-1)
          go_wp2_with (first | ((with_reducible refine gate_store (t := 3) (p := 27) rfl ?_); refine store_event (t := 3) (p := 27) (v := ?vo_w17) (w1 := (wr.setCell ⟨go15, (x18_1 : Int).toNat, none⟩ (.int .i64 (-1)))) ?hg ?ho ?hn ?hr ?_; (case ho => rfl); (case hg => rfl); (case hn => rfl); (case hr => first | (go_simp; done) | (go_simp; rfl)); intro w17 hw; have hg : wr.grownBy w17 (some go15) := (by rw [hw]; exact HP16.2); have hp_ : Kd.R (Kd.int .i64) 3 w17 w.heap.size (fun _ => True) (.slice (some ⟨go15, 0, none⟩) x3_1.length co15) y106 := (by rw [hw, Ny106.out]; exact HP16.1); clear HP16; have n0_ := Aside0.mk (hp_); have n1_ := Aside0.mk (blk_grown (g := gb101) (o := .cells #[.int .i64 a0_0, .int .i64 a0_1, .slice (some ad105) l0_2.length c0_2, .slice A0_3 l0_3.length c0_3] 77 (0, 0)) (by (with_reducible repeat (first | refine blk_drewN ?_ _ | refine blk_drew ?_ | refine blk_alloc ?_ _)); exact BK101.out) hg (Kd.R_ne HO_3.out BK101.out (by decide))); have n2_ := Aside0.mk ((by rw [hw]; exact below_set (HB.out) GB15.out : Below w.heap.size w w17)); clear HO_3; clear BK101; clear HB; have HO_3 := n0_; have BK101 := n1_; have HB := n2_; clear n0_ n1_ n2_; clear hg hw hp_))
          go_roundg k1
          case measure => have := HK1.out; omega
          case rel => exact ⟨(y106), (wrap64 (x18_1 + 1)), (by first | rfl | (simp; done) | (simp [*]; done) | (simp [wrap64]; done)), H', ⟨by have := HK1.out; omega⟩, ⟨by (with_reducible repeat (first | apply Kd.R_alloc | apply Kd.R_drewN | apply Kd.R_drew)); exact HO_3.out⟩, ⟨by (with_reducible repeat (first | refine blk_drewN ?_ _ | refine blk_drew ?_ | refine blk_alloc ?_ _)); exact BK101.out⟩, ⟨by repeat (first | (with_reducible first | exact HB.out | apply below_alloc | apply pw_below_drewN | apply below_drew1 | refine below_set ?_ GE101.out) | exact HB.out)⟩⟩
         ·rw [if_neg c14] at H
          exact absurd H (by simp)
       ·rw [if_neg c11] at H
        exact absurd H (by simp)
      ·rw [if_neg c10] at H
       exact absurd H (by simp)
     ·rw [if_neg c9] at H
      have c9b0 : decide (x18_1 < (l0_2.length : Int)) = false := decide_eq_false c9
      clear c9
      have H' := Aside0.mk H
      clear H
      go_wp2
      go_loopg [6] k1 (fun kq v6 w' => ∃ (x3_2 : List Int) (x6_2 : Int), v6 = .int .i64 x6_2 ∧ Aside0 (impl_machine_far.l1 kq x3_2 x6_2 a0_0 a0_1 l0_2 l0_3 = some r) ∧ Aside0 (kq ≤ k1) ∧ Aside0 (Kd.R (Kd.int .i64) 3 w' w.heap.size (fun _ => True) v103 x3_2) ∧ Aside0 (w'.heap[gb101]? = some (.cells #[.int .i64 a0_0, .int .i64 a0_1, (.slice A0_2 l0_2.length c0_2), (.slice A0_3 l0_3.length c0_3)] 77 (0, 0))) ∧ Aside0 (Below w.heap.size w w'))
      case atStart => exact ⟨(x3_1), (1), (by first | rfl | (simp; done) | (simp [*]; done) | (simp [wrap64]; done)), H', ⟨Nat.le_refl _⟩, ⟨by (with_reducible repeat (first | apply Kd.R_alloc | apply Kd.R_drewN | apply Kd.R_drew)); exact HO_3.out⟩, ⟨by (with_reducible repeat (first | refine blk_drewN ?_ _ | refine blk_drew ?_ | refine blk_alloc ?_ _)); exact BK101.out⟩, ⟨by repeat (first | (with_reducible first | exact HB.out | apply below_alloc | apply pw_below_drewN | apply below_drew1 | refine below_set ?_ GE101.out) | exact HB.out)⟩⟩
      case round =>
       clear H'
       try clear c1
       try clear p1
       try clear q1
       try clear hx1
       try clear hf1
       try clear c2
       try clear c2b0
       try clear c2b1
       try clear p2
       try clear c3
       try clear c3b0
       try clear c3b1
       try clear p6
       try clear c9
       try clear c9b0
       try clear c10
       try clear c10b0
       try clear p10
       try clear q10
       try clear hx10
       try clear c11
       try clear c11b0
       try clear q12
       try clear c13
       try clear c14
       try clear c14b0
       try clear p15
       try clear q15
       try clear hx15
       try clear hf15
       try clear hcz5_0
       try clear hcz5_1
       try clear hcz5_2
       try clear hcz5_3
       try clear hcz8_0
       try clear hcz8_1
       try clear hcz8_2
       try clear hcz8_3
       try clear hfz5_0
       try clear hfz5_1
       try clear hfz5_2
       try clear hfz5_3
       try clear hfz8_0
       try clear hfz8_1
       try clear hfz8_2
       try clear hfz8_3
       try clear hx105_0
       try clear hx15_0
       try clear p105
       try clear p15
       try clear p2
       try clear p6
       try clear q105
       try clear q15
       obtain ⟨x3_2, x6_2, rfl, HA, HK2, HO_3, BK101, HB⟩ := hrel
       cases gk with
       | zero => exact absurd HA.out (by simp [impl_machine_far.l1])
       | succ k2 =>
        have H := HA.out
        clear HA
        simp only [impl_machine_far.l1] at H
        by_cases c18 : x6_2 ≤ (x3_2.length : Int)
        ·rw [if_pos c18] at H
         have c18b0 : decide (x6_2 ≤ (x3_2.length : Int)) = true := decide_eq_true c18
         clear c18
         have H' := Aside0.mk H
         clear H
         obtain ⟨Ao19, co19, eo19⟩ := Kd.R_slice HO_3.out
         subst eo19
         have hcz20_0 : wr.cell? ⟨gb101, 0, none⟩ = some (.int .i64 a0_0) := (blk_cell BK101.out 0).trans rfl
         have hcz20_1 : wr.cell? ⟨gb101, 1, none⟩ = some (.int .i64 a0_1) := (blk_cell BK101.out 1).trans rfl
         have hcz20_2 : wr.cell? ⟨gb101, 2, none⟩ = some (.slice A0_2 l0_2.length c0_2) := (blk_cell BK101.out 2).trans rfl
         have hcz20_3 : wr.cell? ⟨gb101, 3, none⟩ = some (.slice A0_3 l0_3.length c0_3) := (blk_cell BK101.out 3).trans rfl
         have hfz20_0 := blk_frozen BK101.out 0
         have hfz20_1 := blk_frozen BK101.out 1
         have hfz20_2 := blk_frozen BK101.out 2
         have hfz20_3 := blk_frozen BK101.out 3
         go_wp2
         go_loopg [38] k2 (fun kq v38 w' => ∃ (x3_3 : List Int) (x38_3 : Int), v38 = .int .i64 x38_3 ∧ Aside0 (impl_machine_far.l2 kq x3_3 x6_2 l0_3 (l0_3.length : Int) x38_3 a0_0 a0_1 l0_2 l0_3 = some r) ∧ Aside0 (kq ≤ k2) ∧ Aside0 (Kd.R (Kd.int .i64) 3 w' w.heap.size (fun _ => True) (.slice Ao19 x3_2.length co19) x3_3) ∧ Aside0 (w'.heap[gb101]? = some (.cells #[.int .i64 a0_0, .int .i64 a0_1, (.slice A0_2 l0_2.length c0_2), (.slice A0_3 l0_3.length c0_3)] 77 (0, 0))) ∧ Aside0 (Below w.heap.size w w'))
         case atStart => exact ⟨(x3_2), (0), (by first | rfl | (simp; done) | (simp [*]; done) | (simp [wrap64]; done)), H', ⟨Nat.le_refl _⟩, ⟨by (with_reducible repeat (first | apply Kd.R_alloc | apply Kd.R_drewN | apply Kd.R_drew)); exact HO_3.out⟩, ⟨by (with_reducible repeat (first | refine blk_drewN ?_ _ | refine blk_drew ?_ | refine blk_alloc ?_ _)); exact BK101.out⟩, ⟨by repeat (first | (with_reducible first | exact HB.out | apply below_alloc | apply pw_below_drewN | apply below_drew1 | refine below_set ?_ GE101.out) | exact HB.out)⟩⟩
         case round =>
          clear H'
          try clear c1
          try clear p1
          try clear q1
          try clear hx1
          try clear hf1
          try clear c2
          try clear c2b0
          try clear c2b1
          try clear p2
          try clear c3
          try clear c3b0
          try clear c3b1
          try clear p6
          try clear c9
          try clear c9b0
          try clear c10
          try clear c10b0
          try clear p10
          try clear q10
          try clear hx10
          try clear c11
          try clear c11b0
          try clear q12
          try clear c13
          try clear c14
          try clear c14b0
          try clear p15
          try clear q15
          try clear hx15
          try clear hf15
          try clear c18
          try clear c18b0
          try clear hcz20_0
          try clear hcz20_1
          try clear hcz20_2
          try clear hcz20_3
          try clear hcz5_0
          try clear hcz5_1
          try clear hcz5_2
          try clear hcz5_3
          try clear hcz8_0
          try clear hcz8_1
          try clear hcz8_2
          try clear hcz8_3
          try clear hfz20_0
          try clear hfz20_1
          try clear hfz20_2
          try clear hfz20_3
          try clear hfz5_0
          try clear hfz5_1
          try clear hfz5_2
          try clear hfz5_3
          try clear hfz8_0
          try clear hfz8_1
          try clear hfz8_2
          try clear hfz8_3
          try clear hx105_0
          try clear hx15_0
          try clear p1
          try clear p10
          try clear p105
          try clear p15
          try clear p2
          try clear p6
          try clear q1
          try clear q10
          try clear q105
          try clear q12
          try clear q15
          obtain ⟨x3_3, x38_3, rfl, HA, HK3, HO_3, BK101, HB⟩ := hrel
          have hl3_3 := (Kd.R_reads' HO_3.out).1
          rw [hl3_3] at HO_3
          (try simp only [hl3_3])
          (try simp only [hl3_3] at BK101)
          cases gk with
          | zero => exact absurd HA.out (by simp [impl_machine_far.l2])
          | succ k3 =>
           have H := HA.out
           clear HA
           simp only [impl_machine_far.l2] at H
           by_cases c21 : x38_3 < (l0_3.length : Int)
           ·rw [if_pos c21] at H
            have c21b0 : decide (x38_3 < (l0_3.length : Int)) = true := decide_eq_true c21
            clear c21
            by_cases c22 : 0 ≤ x38_3
            ·rw [if_pos c22] at H
             have c22b0 : decide (0 ≤ x38_3) = true := decide_eq_true c22
             clear c22
             by_cases c23 : x38_3 < (l0_3.length : Int)
             ·rw [if_pos c23] at H
              have c23b0 : decide (x38_3 < (l0_3.length : Int)) = true := decide_eq_true c23
              clear c23
              by_cases c24 : x38_3 < (x3_3.length : Int)
              ·rw [if_pos c24] at H
               have c24b0 : decide (x38_3 < (x3_3.length : Int)) = true := decide_eq_true c24
               clear c24
               by_cases c25 : (rd x3_3 x38_3) ≥ 0
               ·rw [if_pos c25] at H
                have c25b0 : decide (0 ≤ (rd x3_3 x38_3)) = true := decide_eq_true c25
                clear c25
                have H' := Aside0.mk H
                clear H
                have p107 : 0 ≤ (x38_3 : Int) := of_decide_eq_true (by first | (with_reducible assumption) | assumption)
                have q107 : x38_3 < (l0_3.length : Int) := of_decide_eq_true (by first | (with_reducible assumption) | assumption)
                obtain ⟨ad107, A107_0, c107_0, e107, hx107_0, hl107_0, hi107_0⟩ := at_L1 HR0_3.out x38_3 p107 q107
                cases e107
                replace hx107_0 := (HB.out.cell (World.block_lt_of_cell? w _ hx107_0)).trans hx107_0
                have HR107_0 := Aside0.mk hi107_0
                have HC107_0 := Aside0.mk hl107_0
                clear hi107_0 hl107_0
                replace p107 := eq_true p107
                replace q107 := eq_true q107
                have p108 : 0 ≤ (x38_3 : Int) := of_decide_eq_true (by first | (with_reducible assumption) | assumption)
                have q108 : x38_3 < (x3_3.length : Int) := of_decide_eq_true (by first | (with_reducible assumption) | assumption)
                obtain ⟨ad108, e108, hx108_0⟩ := Kd.at_int (Kd.R_reads' HO_3.out).2.2 x38_3 p108 q108
                cases e108
                replace p108 := eq_true p108
                replace q108 := eq_true q108
                go_wp2
                (try simp only [← hl3_3])
                go_roundg k3
                case measure => have := HK1.out; have := HK2.out; have := HK3.out; omega
                case rel => exact ⟨(x3_3), (wrap64 (x38_3 + 1)), (by first | rfl | (simp; done) | (simp [*]; done) | (simp [wrap64]; done)), H', ⟨by have := HK1.out; have := HK2.out; have := HK3.out; omega⟩, ⟨by (try simp only [hl3_3]); (with_reducible repeat (first | apply Kd.R_alloc | apply Kd.R_drewN | apply Kd.R_drew)); exact HO_3.out⟩, ⟨by (try simp only [hl3_3]); (with_reducible repeat (first | refine blk_drewN ?_ _ | refine blk_drew ?_ | refine blk_alloc ?_ _)); exact BK101.out⟩, ⟨by repeat (first | (with_reducible first | exact HB.out | apply below_alloc | apply pw_below_drewN | apply below_drew1 | refine below_set ?_ GE101.out) | exact HB.out)⟩⟩
               ·rw [if_neg c25] at H
                have c25b0 : decide (0 ≤ (rd x3_3 x38_3)) = false := decide_eq_false c25
                clear c25
                have H' := Aside0.mk H
                clear H
                have p107 : 0 ≤ (x38_3 : Int) := of_decide_eq_true (by first | (with_reducible assumption) | assumption)
                have q107 : x38_3 < (l0_3.length : Int) := of_decide_eq_true (by first | (with_reducible assumption) | assumption)
                obtain ⟨ad107, A107_0, c107_0, e107, hx107_0, hl107_0, hi107_0⟩ := at_L1 HR0_3.out x38_3 p107 q107
                cases e107
                replace hx107_0 := (HB.out.cell (World.block_lt_of_cell? w _ hx107_0)).trans hx107_0
                have HR107_0 := Aside0.mk hi107_0
                have HC107_0 := Aside0.mk hl107_0
                clear hi107_0 hl107_0
                replace p107 := eq_true p107
                replace q107 := eq_true q107
                have p108 : 0 ≤ (x38_3 : Int) := of_decide_eq_true (by first | (with_reducible assumption) | assumption)
                have q108 : x38_3 < (x3_3.length : Int) := of_decide_eq_true (by first | (with_reducible assumption) | assumption)
                obtain ⟨ad108, e108, hx108_0⟩ := Kd.at_int (Kd.R_reads' HO_3.out).2.2 x38_3 p108 q108
                cases e108
                replace p108 := eq_true p108
                replace q108 := eq_true q108
                go_wp2
                go_loopg [50] k3 (fun kq v50 w' => ∃ (x3_4 : List Int) (x50_4 : Int), v50 = .int .i64 x50_4 ∧ Aside0 (impl_machine_far.l3 kq x3_4 x6_2 x38_3 l0_3 (l0_3.length : Int) x38_3 (rd_L1 l0_3 x38_3) ((rd_L1 l0_3 x38_3).length : Int) x50_4 a0_0 a0_1 l0_2 l0_3 = some r) ∧ Aside0 (kq ≤ k3) ∧ Aside0 (Kd.R (Kd.int .i64) 3 w' w.heap.size (fun _ => True) (.slice (some ad108) x3_3.length co19) x3_4) ∧ Aside0 (w'.heap[gb101]? = some (.cells #[.int .i64 a0_0, .int .i64 a0_1, (.slice A0_2 l0_2.length c0_2), (.slice (some ad107) l0_3.length c0_3)] 77 (0, 0))) ∧ Aside0 (Below w.heap.size w w'))
                case atStart => exact ⟨(x3_3), (0), (by first | rfl | (simp; done) | (simp [*]; done) | (simp [wrap64]; done)), H', ⟨Nat.le_refl _⟩, ⟨by (try simp only [hl3_3]); (with_reducible repeat (first | apply Kd.R_alloc | apply Kd.R_drewN | apply Kd.R_drew)); exact HO_3.out⟩, ⟨by (try simp only [hl3_3]); (with_reducible repeat (first | refine blk_drewN ?_ _ | refine blk_drew ?_ | refine blk_alloc ?_ _)); exact BK101.out⟩, ⟨by repeat (first | (with_reducible first | exact HB.out | apply below_alloc | apply pw_below_drewN | apply below_drew1 | refine below_set ?_ GE101.out) | exact HB.out)⟩⟩
                case round =>
                 clear H'
                 try clear c1
                 try clear p1
                 try clear q1
                 try clear hx1
                 try clear hf1
                 try clear c2
                 try clear c2b0
                 try clear c2b1
                 try clear p2
                 try clear c3
                 try clear c3b0
                 try clear c3b1
                 try clear p6
                 try clear c9
                 try clear c9b0
                 try clear c10
                 try clear c10b0
                 try clear p10
                 try clear q10
                 try clear hx10
                 try clear c11
                 try clear c11b0
                 try clear q12
                 try clear c13
                 try clear c14
                 try clear c14b0
                 try clear p15
                 try clear q15
                 try clear hx15
                 try clear hf15
                 try clear c18
                 try clear c18b0
                 try clear c21
                 try clear c21b0
                 try clear c22
                 try clear c22b0
                 try clear c23
                 try clear c23b0
                 try clear c24
                 try clear c24b0
                 try clear c25
                 try clear c25b0
                 try clear hcz20_0
                 try clear hcz20_1
                 try clear hcz20_2
                 try clear hcz20_3
                 try clear hcz5_0
                 try clear hcz5_1
                 try clear hcz5_2
                 try clear hcz5_3
                 try clear hcz8_0
                 try clear hcz8_1
                 try clear hcz8_2
                 try clear hcz8_3
                 try clear hfz20_0
                 try clear hfz20_1
                 try clear hfz20_2
                 try clear hfz20_3
                 try clear hfz5_0
                 try clear hfz5_1
                 try clear hfz5_2
                 try clear hfz5_3
                 try clear hfz8_0
                 try clear hfz8_1
                 try clear hfz8_2
                 try clear hfz8_3
                 try clear hx105_0
                 try clear hx107_0
                 try clear hx108_0
                 try clear hx15_0
                 try clear p1
                 try clear p10
                 try clear p105
                 try clear p107
                 try clear p108
                 try clear p15
                 try clear p2
                 try clear p6
                 try clear q1
                 try clear q10
                 try clear q105
                 try clear q107
                 try clear q108
                 try clear q12
                 try clear q15
                 obtain ⟨x3_4, x50_4, rfl, HA, HK4, HO_3, BK101, HB⟩ := hrel
                 have hl3_4 := (Kd.R_reads' HO_3.out).1
                 rw [hl3_4] at HO_3
                 (try simp only [hl3_4])
                 (try simp only [hl3_4] at BK101)
                 cases gk with
                 | zero => exact absurd HA.out (by simp [impl_machine_far.l3])
                 | succ k4 =>
                  have H := HA.out
                  clear HA
                  simp only [impl_machine_far.l3] at H
                  by_cases c26 : x50_4 < ((rd_L1 l0_3 x38_3).length : Int)
                  ·rw [if_pos c26] at H
                   have c26b0 : decide (x50_4 < ((rd_L1 l0_3 x38_3).length : Int)) = true := decide_eq_true c26
                   clear c26
                   by_cases c27 : 0 ≤ x50_4
                   ·rw [if_pos c27] at H
                    have c27b0 : decide (0 ≤ x50_4) = true := decide_eq_true c27
                    clear c27
                    by_cases c28 : x50_4 < ((rd_L1 l0_3 x38_3).length : Int)
                    ·rw [if_pos c28] at H
                     have c28b0 : decide (x50_4 < ((rd_L1 l0_3 x38_3).length : Int)) = true := decide_eq_true c28
                     clear c28
                     by_cases c29 : 0 ≤ (rd (rd_L1 l0_3 x38_3) x50_4)
                     ·rw [if_pos c29] at H
                      have c29b0 : decide (0 ≤ (rd (rd_L1 l0_3 x38_3) x50_4)) = true := decide_eq_true c29
                      clear c29
                      by_cases c30 : (rd (rd_L1 l0_3 x38_3) x50_4) < (x3_4.length : Int)
                      ·rw [if_pos c30] at H
                       have c30b0 : decide ((rd (rd_L1 l0_3 x38_3) x50_4) < (x3_4.length : Int)) = true := decide_eq_true c30
                       clear c30
                       by_cases c31 : (rd x3_4 (rd (rd_L1 l0_3 x38_3) x50_4)) = (wrap64 (x6_2 - 1))
                       ·rw [if_pos c31] at H
                        have c31b0 : ((rd x3_4 (rd (rd_L1 l0_3 x38_3) x50_4)) == (wrap64 (x6_2 - 1))) = true := beq_iff_eq.mpr c31
                        have c31b1 : ((rd x3_4 (rd (rd_L1 l0_3 x38_3) x50_4)) != (wrap64 (x6_2 - 1))) = false := bne_eq_false_iff_eq.mpr c31
                        clear c31
                        by_cases c32 : 0 ≤ x38_3
                        ·rw [if_pos c32] at H
                         have c32b0 : decide (0 ≤ x38_3) = true := decide_eq_true c32
                         clear c32
                         by_cases c33 : x38_3 < (x3_4.length : Int)
                         ·rw [if_pos c33] at H
                          have c33b0 : decide (x38_3 < (x3_4.length : Int)) = true := decide_eq_true c33
                          clear c33
                          obtain ⟨y111, hy111⟩ : ∃ y_ : List Int, y_ = (x3_4.set (x38_3 : Int).toNat x6_2) := ⟨_, rfl⟩
                          replace H : (impl_machine_far.l2 k4 y111 x6_2 l0_3 (l0_3.length : Int) (wrap64 (x38_3 + 1)) a0_0 a0_1 l0_2 l0_3) = some r := by first | (rw [hy111]; with_reducible exact H) | (have H2_ := (Option.bind_some _ _).symm.trans H; rw [hy111]; with_reducible exact H2_) | (have H2_ := (Option.bind_some _ _).symm.trans H; with_reducible exact H2_) | with_reducible exact H | (rw [hy111]; exact H) | exact H
                          have Ny111 := Aside0.mk hy111
                          clear hy111
                          have H' := Aside0.mk H
                          clear H
                          have p109 : 0 ≤ (x50_4 : Int) := of_decide_eq_true (by first | (with_reducible assumption) | assumption)
                          have q109 : x50_4 < ((rd_L1 l0_3 x38_3).length : Int) := of_decide_eq_true (by first | (with_reducible assumption) | assumption)
                          obtain ⟨ad109, e109, hx109_0⟩ := Kd.at_int HR107_0.out x50_4 p109 q109
                          cases e109
                          replace hx109_0 := (HB.out.cell (World.block_lt_of_cell? w _ hx109_0)).trans hx109_0
                          replace p109 := eq_true p109
                          replace q109 := eq_true q109
                          have p110 : 0 ≤ ((rd (rd_L1 l0_3 x38_3) x50_4) : Int) := of_decide_eq_true (by first | (with_reducible assumption) | assumption)
                          have q110 : (rd (rd_L1 l0_3 x38_3) x50_4) < (x3_4.length : Int) := of_decide_eq_true (by first | (with_reducible assumption) | assumption)
                          obtain ⟨ad110, e110, hx110_0⟩ := Kd.at_int (Kd.R_reads' HO_3.out).2.2 (rd (rd_L1 l0_3 x38_3) x50_4) p110 q110
                          obtain rfl : ad108 = ad110 := (by injection e110)
                          replace p110 := eq_true p110
                          replace q110 := eq_true q110
                          have p34 : 0 ≤ (x38_3 : Int) := of_decide_eq_true (by first | (with_reducible assumption) | assumption)
                          have q34 : (x38_3 : Int) < ((x3_4.length : Int) : Int) := of_decide_eq_true (by first | (with_reducible assumption) | assumption)
                          obtain ⟨go34, co34, eo34, gb34, gl34, cl34, HG34⟩ := Kd.R_form HO_3.out (by omega)
                          (first | cases eo34 | (injection eo34 with ea_ en_ ec_; (first | subst ea_ | (injection ea_ with ea_; subst ea_)); subst ec_; clear en_))
                          have GB34 := Aside0.mk gb34
                          have GG34 := Aside0.mk HG34
                          clear gb34 gl34 HG34
                          (first | simp only [add_plain] at hx108_0 | skip)
                          (first | simp only [add_plain] at hx110_0 | skip)
                          obtain ⟨hx34_0, hf34_0⟩ := Kd.R_celln 0 HO_3.out (x38_3 : Int) p34 q34
                          replace p34 := eq_true p34
                          replace q34 := eq_true q34
                          have HP35 := Kd.R_putg HO_3.out (x38_3 : Int) x6_2
                          go_wp2_with (first | ((with_reducible refine gate_store (t := 3) (p := 64) rfl ?_); refine store_event (t := 3) (p := 64) (v := ?vo_w36) (w1 := (wr.setCell ⟨go34, (x38_3 : Int).toNat, none⟩ (.int .i64 x6_2))) ?hg ?ho ?hn ?hr ?_; (case ho => rfl); (case hg => rfl); (case hn => rfl); (case hr => first | (go_simp; done) | (go_simp; rfl)); intro w36 hw; have hg : wr.grownBy w36 (some go34) := (by rw [hw]; exact HP35.2); have hp_ : Kd.R (Kd.int .i64) 3 w36 w.heap.size (fun _ => True) (.slice (some ⟨go34, 0, none⟩) x3_4.length co19) y111 := (by rw [hw, Ny111.out]; exact HP35.1); clear HP35; have n0_ := Aside0.mk (hp_); have n1_ := Aside0.mk (blk_grown (g := gb101) (o := .cells #[.int .i64 a0_0, .int .i64 a0_1, .slice A0_2 l0_2.length c0_2, .slice (some ad107) l0_3.length c0_3] 77 (0, 0)) (by (with_reducible repeat (first | refine blk_drewN ?_ _ | refine blk_drew ?_ | refine blk_alloc ?_ _)); exact BK101.out) hg (Kd.R_ne HO_3.out BK101.out (by decide))); have n2_ := Aside0.mk ((by rw [hw]; exact below_set (HB.out) GB34.out : Below w.heap.size w w36)); clear HO_3; clear BK101; clear HB; have HO_3 := n0_; have BK101 := n1_; have HB := n2_; clear n0_ n1_ n2_; clear hg hw hp_))
                          (try simp only [← hl3_3, ← hl3_4])
                          go_roundg k4
                          case measure => have := HK1.out; have := HK2.out; have := HK3.out; have := HK4.out; omega
                          case rel => exact ⟨(y111), (wrap64 (x38_3 + 1)), (by first | rfl | (simp; done) | (simp [*]; done) | (simp [wrap64]; done)), H', ⟨by have := HK1.out; have := HK2.out; have := HK3.out; have := HK4.out; omega⟩, ⟨by (try simp only [hl3_3]); (try simp only [hl3_4]); (with_reducible repeat (first | apply Kd.R_alloc | apply Kd.R_drewN | apply Kd.R_drew)); exact HO_3.out⟩, ⟨by (try simp only [hl3_3]); (try simp only [hl3_4]); (with_reducible repeat (first | refine blk_drewN ?_ _ | refine blk_drew ?_ | refine blk_alloc ?_ _)); exact BK101.out⟩, ⟨by repeat (first | (with_reducible first | exact HB.out | apply below_alloc | apply pw_below_drewN | apply below_drew1 | refine below_set ?_ GE101.out) | exact HB.out)⟩⟩
                         ·rw [if_neg c33] at H
                          exact absurd H (by simp)
                        ·rw [if_neg c32] at H
                         exact absurd H (by simp)
                       ·rw [if_neg c31] at H
                        have c31b0 : ((rd x3_4 (rd (rd_L1 l0_3 x38_3) x50_4)) == (wrap64 (x6_2 - 1))) = false := beq_eq_false_iff_ne.mpr c31
                        have c31b1 : ((rd x3_4 (rd (rd_L1 l0_3 x38_3) x50_4)) != (wrap64 (x6_2 - 1))) = true := bne_iff_ne.mpr c31
                        have H' := Aside0.mk H
                        clear H
                        have p109 : 0 ≤ (x50_4 : Int) := of_decide_eq_true (by first | (with_reducible assumption) | assumption)
                        have q109 : x50_4 < ((rd_L1 l0_3 x38_3).length : Int) := of_decide_eq_true (by first | (with_reducible assumption) | assumption)
                        obtain ⟨ad109, e109, hx109_0⟩ := Kd.at_int HR107_0.out x50_4 p109 q109
                        cases e109
                        replace hx109_0 := (HB.out.cell (World.block_lt_of_cell? w _ hx109_0)).trans hx109_0
                        replace p109 := eq_true p109
                        replace q109 := eq_true q109
                        have p110 : 0 ≤ ((rd (rd_L1 l0_3 x38_3) x50_4) : Int) := of_decide_eq_true (by first | (with_reducible assumption) | assumption)
                        have q110 : (rd (rd_L1 l0_3 x38_3) x50_4) < (x3_4.length : Int) := of_decide_eq_true (by first | (with_reducible assumption) | assumption)
                        obtain ⟨ad110, e110, hx110_0⟩ := Kd.at_int (Kd.R_reads' HO_3.out).2.2 (rd (rd_L1 l0_3 x38_3) x50_4) p110 q110
                        obtain rfl : ad108 = ad110 := (by injection e110)
                        replace p110 := eq_true p110
                        replace q110 := eq_true q110
                        go_wp2
                        (try simp only [← hl3_4])
                        go_roundg k4
                        case measure => have := HK1.out; have := HK2.out; have := HK3.out; have := HK4.out; omega
                        case rel => exact ⟨(x3_4), (wrap64 (x50_4 + 1)), (by first | rfl | (simp; done) | (simp [*]; done) | (simp [wrap64]; done)), H', ⟨by have := HK1.out; have := HK2.out; have := HK3.out; have := HK4.out; omega⟩, ⟨by (try simp only [hl3_3]); (try simp only [hl3_4]); (with_reducible repeat (first | apply Kd.R_alloc | apply Kd.R_drewN | apply Kd.R_drew)); exact HO_3.out⟩, ⟨by (try simp only [hl3_3]); (try simp only [hl3_4]); (with_reducible repeat (first | refine blk_drewN ?_ _ | refine blk_drew ?_ | refine blk_alloc ?_ _)); exact BK101.out⟩, ⟨by repeat (first | (with_reducible first | exact HB.out | apply below_alloc | apply pw_below_drewN | apply below_drew1 | refine below_set ?_ GE101.out) | exact HB.out)⟩⟩
                      ·rw [if_neg c30] at H
                       exact absurd H (by simp)
                     ·rw [if_neg c29] at H
                      exact absurd H (by simp)
                    ·rw [if_neg c28] at H
                     exact absurd H (by simp)
                   ·rw [if_neg c27] at H
                    exact absurd H (by simp)
                  ·rw [if_neg c26] at H
                   have c26b0 : decide (x50_4 < ((rd_L1 l0_3 x38_3).length : Int)) = false := decide_eq_false c26
                   clear c26
                   have H' := Aside0.mk H
                   clear H
                   go_wp2
                   (try simp only [← hl3_3, ← hl3_4])
                   go_roundg k4
                   case measure => have := HK1.out; have := HK2.out; have := HK3.out; have := HK4.out; omega
                   case rel => exact ⟨(x3_4), (wrap64 (x38_3 + 1)), (by first | rfl | (simp; done) | (simp [*]; done) | (simp [wrap64]; done)), H', ⟨by have := HK1.out; have := HK2.out; have := HK3.out; have := HK4.out; omega⟩, ⟨by (try simp only [hl3_3]); (try simp only [hl3_4]); (with_reducible repeat (first | apply Kd.R_alloc | apply Kd.R_drewN | apply Kd.R_drew)); exact HO_3.out⟩, ⟨by (try simp only [hl3_3]); (try simp only [hl3_4]); (with_reducible repeat (first | refine blk_drewN ?_ _ | refine blk_drew ?_ | refine blk_alloc ?_ _)); exact BK101.out⟩, ⟨by repeat (first | (with_reducible first | exact HB.out | apply below_alloc | apply pw_below_drewN | apply below_drew1 | refine below_set ?_ GE101.out) | exact HB.out)⟩⟩
              ·rw [if_neg c24] at H
               exact absurd H (by simp)
             ·rw [if_neg c23] at H
              exact absurd H (by simp)
            ·rw [if_neg c22] at H
             exact absurd H (by simp)
           ·rw [if_neg c21] at H
            have c21b0 : decide (x38_3 < (l0_3.length : Int)) = false := decide_eq_false c21
            clear c21
            have H' := Aside0.mk H
            clear H
            go_wp2
            (try simp only [← hl3_3])
            go_roundg k3
            case measure => have := HK1.out; have := HK2.out; have := HK3.out; omega
            case rel => exact ⟨(x3_3), (wrap64 (x6_2 + 1)), (by first | rfl | (simp; done) | (simp [*]; done) | (simp [wrap64]; done)), H', ⟨by have := HK1.out; have := HK2.out; have := HK3.out; omega⟩, ⟨by (try simp only [hl3_3]); (with_reducible repeat (first | apply Kd.R_alloc | apply Kd.R_drewN | apply Kd.R_drew)); exact HO_3.out⟩, ⟨by (try simp only [hl3_3]); (with_reducible repeat (first | refine blk_drewN ?_ _ | refine blk_drew ?_ | refine blk_alloc ?_ _)); exact BK101.out⟩, ⟨by repeat (first | (with_reducible first | exact HB.out | apply below_alloc | apply pw_below_drewN | apply below_drew1 | refine below_set ?_ GE101.out) | exact HB.out)⟩⟩
        ·rw [if_neg c18] at H
         have c18b0 : decide (x6_2 ≤ (x3_2.length : Int)) = false := decide_eq_false c18
         clear c18
         obtain rfl := Option.some.inj H
         simp only [Option.some.injEq, Prod.mk.injEq] at H
         obtain ⟨rfl⟩ := H
         obtain ⟨Ao37, co37, eo37⟩ := Kd.R_slice HO_3.out
         subst eo37
         go_wp2
         go_ret
         exact ⟨_, by first | rfl | (simp [errW_none, errW_some] <;> rfl) | (simp [*, errW_none, errW_some] <;> rfl), by (with_reducible repeat (first | apply Kd.R_alloc | apply Kd.R_drewN | apply Kd.R_drew)); exact HO_3.out, by repeat (first | (with_reducible first | exact HB.out | apply below_alloc | apply pw_below_drewN | apply below_drew1 | refine below_set ?_ GE101.out) | exact HB.out)⟩
  ·rw [if_neg c3] at H
   exact absurd H (by simp)
 ·rw [if_neg c2] at H
  exact absurd H (by simp)
/-! ### impl_columnOf: function 116 -/
def impl_columnOf.l0 : Nat → List Int → Int → Int → Option (Int)
 | 0, _, _, _ => none
 | k + 1, x0, x3, x4 => if x4 ≥ 0 then (if 0 ≤ x4 then (if x4 < (x0.length : Int) then (impl_columnOf.l0 k x0 (wrap64 ((wrap64 (3 * x3)) + (rd x0 x4))) (wrap64 (x4 - 1))) else (none)) else (none)) else (some x3)
def impl_columnOf.f (k : Nat) (l0 : List Int) : Option (Int) := impl_columnOf.l0 k l0 0 (wrap64 ((l0.length : Int) - 1))
theorem impl_columnOf.mono_l : ∀ k, (∀ y0 y1 y2, LeO (impl_columnOf.l0 k y0 y1 y2) (impl_columnOf.l0 (k + 1) y0 y1 y2))
 | 0 => fun _ _ _ r h => by simp [impl_columnOf.l0] at h
 | k + 1 => by
  have ih0 := impl_columnOf.mono_l k
  ·intro y0 y1 y2
   unfold impl_columnOf.l0
   repeat' first
   | (with_reducible exact ih0 _ _ _)
   | (with_reducible exact LeO.refl _)
   | (with_reducible exact LeO.none _)
   | (with_reducible refine LeO.ite ?_ ?_)
   | (with_reducible refine LeO.bind ?_ (fun _ => ?_))
   | exact ih0 _ _ _
   | exact LeO.none _
   | refine LeO.ite ?_ ?_
   | refine LeO.bind ?_ (fun _ => ?_)
theorem impl_columnOf.mono : ∀ a0 k, LeO (impl_columnOf.f k a0) (impl_columnOf.f (k + 1) a0) := by
 intro a0 k
 have ih0 := impl_columnOf.mono_l k
 unfold impl_columnOf.f
 repeat' first
   | (with_reducible exact ih0 _ _ _)
   | (with_reducible exact LeO.refl _)
   | (with_reducible exact LeO.none _)
   | (with_reducible refine LeO.ite ?_ ?_)
   | (with_reducible refine LeO.bind ?_ (fun _ => ?_))
   | exact ih0 _ _ _
   | exact LeO.none _
   | refine LeO.ite ?_ ?_
   | refine LeO.bind ?_ (fun _ => ?_)
set_option maxHeartbeats 8000000 in
set_option maxRecDepth 100000 in
theorem impl_columnOf.calls (k : Nat) (A0 : Option Addr) (c0 : Nat) (l0 : List Int) (r : Int) (w : World) (hr0 : Kd.C (Kd.int .i64) w A0 l0.length l0) (hc0 : l0.length ≤ c0) (h : impl_columnOf.f k l0 = some r) :
  Calls Tryd.prog 116 #[.slice A0 l0.length c0] w fun e w' => e = .returned (.int .i64 r) ∧ Drawn0 w w' := by
 have HR0 := Aside0.mk hr0
 have HC0 := Aside0.mk hc0
 clear hr0 hc0
 have H : (impl_columnOf.l0 k l0 0 (wrap64 ((l0.length : Int) - 1))) = some r := h
 clear h
 have H' := Aside0.mk H
 clear H
 go_enter Tryd.func116, Tryd.ntmps116
 go_wp2
 go_loopg [3, 4] k (fun kq v3 v4 w' => ∃ (x3_1 : Int) (x4_1 : Int), v3 = .int .i64 x3_1 ∧ v4 = .int .i64 x4_1 ∧ Aside0 (impl_columnOf.l0 kq l0 x3_1 x4_1 = some r) ∧ Aside0 (kq ≤ k) ∧ Drawn0 w w')
 case atStart => exact ⟨(0), (wrap64 ((l0.length : Int) - 1)), (by first | rfl | (simp; done) | (simp [*]; done) | (simp [wrap64]; done)), (by first | rfl | (simp; done) | (simp [*]; done) | (simp [wrap64]; done)), H', ⟨Nat.le_refl _⟩, by repeat (first | exact Drawn0.refl _ | apply Drawn0.step)⟩
 case round =>
  clear H'
  try clear c1
  obtain ⟨x3_1, x4_1, rfl, rfl, HA, HK1, ⟨m1, rfl⟩⟩ := hrel
  cases gk with
  | zero => exact absurd HA.out (by simp [impl_columnOf.l0])
  | succ k1 =>
   have H := HA.out
   clear HA
   simp only [impl_columnOf.l0] at H
   by_cases c2 : x4_1 ≥ 0
   ·rw [if_pos c2] at H
    have c2b0 : decide (0 ≤ x4_1) = true := decide_eq_true c2
    clear c2
    by_cases c3 : 0 ≤ x4_1
    ·rw [if_pos c3] at H
     have c3b0 : decide (0 ≤ x4_1) = true := decide_eq_true c3
     clear c3
     by_cases c4 : x4_1 < (l0.length : Int)
     ·rw [if_pos c4] at H
      have c4b0 : decide (x4_1 < (l0.length : Int)) = true := decide_eq_true c4
      clear c4
      have H' := Aside0.mk H
      clear H
      have p112 : 0 ≤ (x4_1 : Int) := of_decide_eq_true (by first | (with_reducible assumption) | assumption)
      have q112 : x4_1 < (l0.length : Int) := of_decide_eq_true (by first | (with_reducible assumption) | assumption)
      obtain ⟨ad112, e112, hx112_0⟩ := Kd.at_int HR0.out x4_1 p112 q112
      cases e112
      replace p112 := eq_true p112
      replace q112 := eq_true q112
      go_wp2
      go_roundg k1
      case measure => have := HK1.out; omega
      case rel => exact ⟨(wrap64 ((wrap64 (3 * x3_1)) + (rd l0 x4_1))), (wrap64 (x4_1 - 1)), (by first | rfl | (simp; done) | (simp [*]; done) | (simp [wrap64]; done)), (by first | rfl | (simp; done) | (simp [*]; done) | (simp [wrap64]; done)), H', ⟨by have := HK1.out; omega⟩, by repeat (first | exact Drawn0.refl _ | apply Drawn0.step)⟩
     ·rw [if_neg c4] at H
      exact absurd H (by simp)
    ·rw [if_neg c3] at H
     exact absurd H (by simp)
   ·rw [if_neg c2] at H
    have c2b0 : decide (0 ≤ x4_1) = false := decide_eq_false c2
    clear c2
    obtain rfl := Option.some.inj H
    simp only [Option.some.injEq, Prod.mk.injEq] at H
    obtain ⟨rfl⟩ := H
    go_wp2
    go_ret
    exact ⟨by first | rfl | (simp; done) | (simp [*]; done) | (simp [wrap64]; done), by repeat (first | exact Drawn0.refl _ | apply Drawn0.step)⟩
end Go.Proofs.YtbamnonamdpooaaDoor.PC1
