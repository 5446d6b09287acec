/- Parts of the proof, put together by a program of the session. -/
import Derived.Test.YtnjdkhnepmmfgaaDoorCore0
import Derived.Test.YtnjdkhnepmmfgaaDoorCore1
import Derived.Test.YtnjdkhnepmmfgaaDoorCore3
import Derived.Test.YtnjdkhnepmmfgaaDoorCore2
import Derived.Test.YtnjdkhnepmmfgaaDoorCore4
import Derived.Test.YtnjdkhnepmmfgaaDoorRows
import Derived.LaidSub
import Derived.MakeChecks
import Derived.Test.YtnjdkhnepmmfgaaDoorCWords
import Derived.ChangeArms
import Derived.OpenShut
import Derived.Deep.Slices
import Derived.DataReads
import Derived.WideShapes
import Derived.Lib.SmallJoins
import Derived.LaidMore
import Derived.Lay
import Derived.WalkKit
import Derived.ProofKit
import Derived.ShutString
import Derived.ChangeOld
import Derived.Below
import Derived.SizedLaws
namespace Go.Proofs.YtnjdkhnepmmfgaaDoor.Fi
set_option linter.unusedVariables false
set_option linter.unusedSimpArgs false
open Go.RowKit Go.Proofs.YtnjdkhnepmmfgaaDoorW.PrintWords Go.Proofs.YtnjdkhnepmmfgaaDoorW.PrintLast Go.Proofs.YtnjdkhnepmmfgaaDoorW.PrintMore Mp Kp Mg Tdy Rg Tw
theorem find_hit {κ : Type} [DecidableEq κ] {k : κ} {l : List κ} {i : Nat} (hi : i < l.length) (he : l[i] = k) (hno : ∀ x, x < i → ∀ h : x < l.length, l[x] ≠ k) : find id k l = some i := by
 induction l generalizing i with
 | nil => simp at hi
 | cons a l ih =>
  unfold find
  cases i with
  | zero =>
   have : id a = k := by simpa using he
   rw [if_pos this]
  | succ i =>
   have hne : ¬ id a = k := hno 0 (by omega) (by simp)
   rw [if_neg hne, ih (by simpa using hi) (by simpa using he) (fun x hx hxl => hno (x + 1) (by omega) (by simpa using hxl))]
   rfl
theorem find_miss {κ : Type} [DecidableEq κ] {k : κ} {l : List κ} (hno : ∀ x, ∀ h : x < l.length, l[x] ≠ k) : find id k l = none := by
 induction l with
 | nil => rfl
 | cons a l ih =>
  unfold find
  have hne : ¬ id a = k := hno 0 (by simp)
  rw [if_neg hne, ih (fun x hxl => hno (x + 1) (by simpa using hxl))]
  rfl
theorem ints_getD (l : List Nat) {i : Nat} (h : i < (ints l).length) : (ints l)[i] = ((l.getD i 0 : Nat) : Int) := by
 have h2 : i < l.length := by rwa [ints_length] at h
 simp [ints, GwI.ints, List.getD_eq_getElem?_getD, h2]
/-- What stands in memory: the classes so far, and the first state of each. -/
structure Fm (w0 : World) (gT nT cT : Nat) (tab : List Int) (vL : Value) (li : List Nat) (W : World) : Prop where
 tab : SR W w0.heap.size (.slice (some ⟨gT, 0, none⟩) nT cT) tab
 lst : SR W w0.heap.size vL (ints li)
 tl : some gT ≠ vL.ownBlock
 bel : Below w0.heap.size w0 W
section
variable {w0 : World} {gT nT cT : Nat} {tab : List Int} {vL : Value} {li : List Nat} {W W' : World}
theorem Fm.step (h : Fm w0 gT nT cT tab vL li W) (hb : Below W.heap.size W W') : Fm w0 gT nT cT tab vL li W' := ⟨Kd.R_below h.tab hb, Kd.R_below h.lst hb, h.tl, below_step h.bel hb⟩
theorem Fm.set (h : Fm w0 gT nT cT tab vL li W) (hg : w0.heap.size ≤ gT) (i : Nat) (x : Int) : Fm w0 gT nT cT (tab.set i x) vL li (W.setCell ⟨gT, i, none⟩ (.int .i64 x)) := by
 have hk := Keep.set W ⟨gT, i, none⟩ (.int .i64 x)
 exact ⟨Kd.R_putn h.tab (i : Int) x, h.lst.move hk (fun k e e2 => by cases e2; exact h.tl e.symm), h.tl, h.bel.setCell hg _⟩
theorem Fm.push (h : Fm w0 gT nT cT tab vL li W) {v1 : Value} {li' : List Nat} (hgT : gT < W.heap.size) (hg : W.grownBy W' vL.ownBlock) (hat : v1.ownBlock = vL.ownBlock ∨ ∃ b, v1.ownBlock = some b ∧ W.heap.size ≤ b) (hR : SR W' w0.heap.size v1 (ints li')) (hb : Below w0.heap.size w0 W') : Fm w0 gT nT cT tab v1 li' W' := by
 have hk := Keep.grown hg
 exact ⟨h.tab.move hk (fun k e e2 => by cases e; exact h.tl e2), hR, ne_after hat hgT h.tl, hb⟩
end
/-- The state's key. -/
abbrev ky (rows : List (List Nat)) (g : List Nat) (q : Nat) : List Nat := Tdy.keyOf rows g q
/-- The classes of the states up to s. -/
def tabS (outs : List Nat) (n : Nat) : List Int := ints outs ++ List.replicate (n - outs.length) 0
theorem tabS_len {outs : List Nat} {n : Nat} (h : outs.length ≤ n) : (tabS outs n).length = n := by unfold tabS; rw [List.length_append, ints_length, List.length_replicate]; omega
theorem tabS_set {outs : List Nat} {n : Nat} (h : outs.length < n) (x : Int) (j : Nat) : ((tabS outs n).set outs.length x).set outs.length (j : Int) = tabS (outs ++ [j]) n := by
 unfold tabS
 have e : n - outs.length = (n - (outs.length + 1)) + 1 := by omega
 have ei : ints (outs ++ [j]) = ints outs ++ [(j : Int)] := by simp [ints, GwI.ints]
 rw [List.set_set, e, List.replicate_succ, List.set_append_right _ _ (by rw [ints_length]; omega), ints_length, Nat.sub_self, List.set_cons_zero, ei, List.append_assoc, List.length_append, List.length_singleton]
 rfl
/-- What is left to number. -/
theorem number_step {rows : List (List Nat)} {g : List Nat} {s : Nat} (hs : s < rows.length) (seen : List (List Nat)) : number ((keys rows g).drop s) seen = match find id (ky rows g s) seen with
  | some j => (j :: (number ((keys rows g).drop (s + 1)) seen).1, (number ((keys rows g).drop (s + 1)) seen).2)
  | none => (seen.length :: (number ((keys rows g).drop (s + 1)) (seen ++ [ky rows g s])).1, (number ((keys rows g).drop (s + 1)) (seen ++ [ky rows g s])).2) := by
 rw [keys_drop rows g hs]
 cases hf : find id (ky rows g s) seen with
 | some j => exact number_hit hf
 | none => exact number_miss hf
/-- The two states' rows lead to the same classes. -/
def alk (rows : List (List Nat)) (g : List Nat) (a b : Nat) : Bool := decide ((rows.getD a []).map (fun p => g.getD p 0) = (rows.getD b []).map (fun p => g.getD p 0))
theorem alk_key {rows : List (List Nat)} {g : List Nat} {a b : Nat} (hc : g.getD a 0 = g.getD b 0) : ky rows g a = ky rows g b ↔ alk rows g a b = true := by
 unfold ky alk Tdy.keyOf
 rw [decide_eq_true_eq, List.cons.injEq]
 exact ⟨fun h => h.2, fun h => ⟨hc, h⟩⟩
set_option maxHeartbeats 8000000 in
set_option maxRecDepth 100000 in
theorem finer (t s0 : Int) (accs : List Bool) (rows : List (List Nat)) (g : List Nat) (hgl : g.length = rows.length) (hpos : 0 < rows.length) (hn : rows.length ≤ 1000000) (w : World) (gp : Nat) (A1 : Option Addr) (c1 : Nat) (hgp : gp < w.heap.size) (h1 : Kd.C (Kd.int .i64) w A1 g.length (ints g))
  (hcall : ∀ W (a b : Nat), Below w.heap.size w W → a < rows.length → b < rows.length → Calls Tryd.prog 105 #[.pointer (some ⟨gp, 0, none⟩), .slice A1 g.length c1, .int .i64 (a : Int), .int .i64 (b : Int)] W fun e W' => e = .returned (.bool (alk rows g a b)) ∧ Drawn0 W W') :
  Calls Tryd.prog 80 #[.pointer (some ⟨gp, 0, none⟩), .slice A1 g.length c1] w fun e w' => ∃ v, e = .returned (.tuple #[v, .int .i64 ((number (keys rows g) []).2.length : Int)]) ∧ Kd.R (Kd.int .i64) 2 w' w.heap.size (fun _ => True) v (ints (number (keys rows g) []).1) ∧ Below w.heap.size w w' := by
 obtain ⟨F1, hF1⟩ : ∃ x, (number (keys rows g) []).1 = x := ⟨_, rfl⟩
 obtain ⟨F2, hF2⟩ : ∃ x, (number (keys rows g) []).2 = x := ⟨_, rfl⟩
 rw [hF1, hF2]
 have hF1' := Aside0.mk hF1
 have hF2' := Aside0.mk hF2
 have hglq := Aside0.mk hgl
 have hnq := Aside0.mk hn
 have hg1 : g.length ≤ 1000000 := by omega
 have hg0 : 0 < g.length := by omega
 have hcl := Aside0.mk hcall
 have h1q := Aside0.mk h1
 clear hF1 hF2 hcall hgl hn h1
 go_enter Tryd.func80, Tryd.ntmps80
 go_wp2_with ((with_reducible refine gate_dst (N := 14) rfl ?_); go_loud (
  refine Kd.R_make (Kd.int .i64) (w0 := w) w.heap.size 2 rfl (N := 14) rfl 75 _ _ rfl (g.length : Int) rfl rfl Tryd.underlying75 (.int .i64 0) 8 info_long rfl (by decide) (by decide) (0 : Int) (ok := fun _ => True) (okp := fun _ => False) rfl (fun _ h => h.elim) trivial (by omega) (by simp; omega) (Below.refl _ _) (Nat.le_refl _) ?_
  intro v2 w2 hR2 hb2 hg2 hn2
  rw [Int.toNat_natCast] at hR2
  obtain ⟨gT, cT, hv2, hgT, hgTl, _⟩ := Kd.R_form hR2 (by rw [List.length_replicate]; exact hg0)
  subst hv2
  rw [List.length_replicate] at hR2))
 have hFm : Fm w gT g.length cT (tabS [] g.length) (.slice (some ⟨w2.heap.size, 0, none⟩) 0 0) [] (w2.alloc (.cells #[] 2)) := by
  refine ⟨?_, sr_zero _ _ (Below.size hb2), fun e => ?_, below_alloc hb2 _⟩
  ·have e : tabS [] g.length = List.replicate g.length 0 := by simp [tabS, ints, GwI.ints]
   rw [e]
   exact Kd.R_below hR2 (below_alloc (Below.refl _ _) _)
  ·have : gT = w2.heap.size := Option.some.inj e
   omega
 have hg1q := Aside0.mk hg1
 have hg0q := Aside0.mk hg0
 have hgTq := Aside0.mk hgT
 clear hR2 hb2 hg2 hn2 hg1 hg0 hgT hgTl hpos hgp
 go_loopg [8, 9] g.length (fun kq v8 v9 W => ∃ (s : Nat) (fs outs : List Nat) (AL : Option Addr) (cL : Nat), v8 = .slice AL fs.length cL ∧ v9 = .int .i64 (s : Int) ∧ Aside0 (kq = g.length - s) ∧ s ≤ g.length ∧ Aside0 (outs.length = s) ∧ Aside0 (∀ q ∈ fs, q < rows.length) ∧ fs.length ≤ s ∧
  Aside0 (F1 = outs ++ (number ((keys rows g).drop s) (fs.map (ky rows g))).1 ∧ F2 = (number ((keys rows g).drop s) (fs.map (ky rows g))).2) ∧ Aside0 (Fm w gT g.length cT (tabS outs g.length) (.slice AL fs.length cL) fs W))
 case atStart => exact ⟨0, [], [], _, _, rfl, rfl, ⟨rfl⟩, Nat.zero_le _, ⟨rfl⟩, ⟨fun q hq => by cases hq⟩, Nat.le_refl _, ⟨by rw [← hF1'.out, ← hF2'.out]; exact ⟨rfl, rfl⟩⟩, ⟨hFm⟩⟩
 case round =>
  clear hFm
  obtain ⟨wo, rfl⟩ : ∃ wo : World, wo = wr := ⟨_, rfl⟩
  obtain ⟨s, fs, outs, AL, cL, rfl, rfl, hk, hsn, hol, hfq, hfl, hN, h⟩ := hrel
  replace h := h.out
  by_cases hs : s < g.length
  ·have hs1 : ((s : Int) < (g.length : Int)) = True := eq_true (by omega)
   have h0s : (0 ≤ (s : Int)) = True := eq_true (by omega)
   have hsrq : Aside0 (s < rows.length) := ⟨by have := hglq.out; omega⟩
   have hsw : wrap64 ((s : Int) + 1) = ((s + 1 : Nat) : Int) := by have := hg1q.out; unfold wrap64; omega
   have htl := tabS_len (outs := outs) (n := g.length) (by have := hol.out; omega)
   have eT := sr_at h.tab (i := s) (by rw [htl]; exact hs)
   obtain ⟨_, cells, hcT⟩ := row_blk h.tab (by rw [htl]; exact hg0q.out)
   have fT : wo.frozen? ⟨gT, s, none⟩ = false := blk_frozen hcT s
   obtain ⟨z, hz⟩ : ∃ z, (tabS outs g.length)[s]'(by rw [htl]; exact hs) = z := ⟨_, rfl⟩
   rw [hz] at eT
   clear hcT cells hz
   go_wp2_with fail
   have hq0 := h.set hgTq.out s (-1)
   clear h eT fT
   generalize wo.setCell ⟨gT, s, none⟩ (.int .i64 (-1)) = wi at *
   have htq := Aside0.mk htl
   clear htl
   obtain ⟨vs, hvs⟩ : ∃ v, g.getD s 0 = v := ⟨_, rfl⟩
   have hvsq := Aside0.mk hvs
   clear hvs
   go_loopg [10] (fs.length + 1) (fun kz v10 W => (∃ k : Nat, v10 = .int .i64 (k : Int) ∧ Aside0 (kz = fs.length - k + 1) ∧ k ≤ fs.length ∧ Aside0 (∀ x, x < k → ∀ hx : x < fs.length, ky rows g fs[x] ≠ ky rows g s) ∧ Aside0 (Fm w gT g.length cT ((tabS outs g.length).set s (-1)) (.slice AL fs.length cL) fs W)) ∨
    (∃ j j1 : Nat, v10 = .int .i64 (j1 : Int) ∧ Aside0 (kz = 0) ∧ Aside0 (j1 = j + 1) ∧ j < fs.length ∧ Aside0 (find id (ky rows g s) (fs.map (ky rows g)) = some j) ∧ Aside0 (Fm w gT g.length cT (((tabS outs g.length).set s (-1)).set s (j : Int)) (.slice AL fs.length cL) fs W)))
   case atStart => exact .inl ⟨0, rfl, ⟨by omega⟩, Nat.zero_le _, ⟨fun x hx => by omega⟩, ⟨hq0⟩⟩
   case round =>
    clear hq0
    obtain ⟨wo2, rfl⟩ : ∃ wo2 : World, wo2 = wr := ⟨_, rfl⟩
    rcases hrel with ⟨k, rfl, hkz, hkl, hno, hF⟩ | ⟨j, j1, rfl, hkz, hj1, hjl, hfj, hF⟩
    ·replace hF := hF.out
     have hTl : s < ((tabS outs g.length).set s (-1)).length := by rw [List.length_set, htq.out]; exact hs
     have eS := sr_at hF.tab (i := s) hTl
     rw [List.getElem_set_self] at eS
     by_cases hk1 : k < fs.length
     ·have hk2 : ((k : Int) < (fs.length : Int)) = True := eq_true (by omega)
      have h0k : (0 ≤ (k : Int)) = True := eq_true (by omega)
      have hkw : wrap64 ((k : Int) + 1) = ((k + 1 : Nat) : Int) := by have := hg1q.out; unfold wrap64; omega
      obtain ⟨p, hp⟩ : ∃ p, fs[k] = p := ⟨_, rfl⟩
      have hpr : p < rows.length := hfq.out p (by rw [← hp]; exact List.getElem_mem hk1)
      have hpg : p < g.length := by have := hglq.out; omega
      have hp1 : ((p : Int) < (g.length : Int)) = True := eq_true (by omega)
      have h0p : (0 ≤ (p : Int)) = True := eq_true (by omega)
      obtain ⟨adL, eL, kL⟩ := sr_at' hF.lst (i := k) (by rw [ints_length]; exact hk1)
      rw [ints_getD] at kL
      have hpp : fs.getD k 0 = p := by rw [List.getD_eq_getElem?_getD, List.getElem?_eq_getElem hk1, hp]; rfl
      rw [hpp] at kL
      obtain ⟨adg, eg, kp⟩ := at_num (Kd.C_below h1q.out hF.bel) p (by rw [ints_length]; exact hpg)
      obtain ⟨adg2, eg2, ks⟩ := at_num (Kd.C_below h1q.out hF.bel) s (by rw [ints_length]; exact hs)
      rw [ints_getD] at kp ks
      rw [hvsq.out] at ks
      obtain ⟨vp, hvp⟩ : ∃ v, g.getD p 0 = v := ⟨_, rfl⟩
      rw [hvp] at kp
      have hvpq := Aside0.mk hvp
      have hpq := Aside0.mk hp
      have hprq := Aside0.mk hpr
      subst eL
      have eg2' := eg.symm.trans eg2
      cases eg2'
      subst eg
      clear eg2 hp hpp hvp hpr hpg
      have key : (ky rows g p = ky rows g s) ↔ (vp = vs ∧ alk rows g p s = true) := by
       constructor
       ·intro h
        have hv : vp = vs := by
         rw [← hvpq.out, ← hvsq.out]
         exact (List.cons.injEq .. ▸ h : _ ∧ _).1
        exact ⟨hv, (alk_key (by rw [hvpq.out, hvsq.out, hv])).1 h⟩
       ·rintro ⟨h1, h2⟩
        exact (alk_key (by rw [hvpq.out, hvsq.out, h1])).2 h2
      have keyq := Aside0.mk key
      clear key
      by_cases hv : vp = vs
      ·have c1 : ((vp : Int) = (vs : Int)) = True := eq_true (by omega)
       have c2 : ((vp : Int) == (vs : Int)) = true := by simp <;> omega
       obtain ⟨ba, hba⟩ : ∃ x, alk rows g p s = x := ⟨_, rfl⟩
       have hcq := Aside0.mk (fun W hb => hba ▸ hcl.out W p s hb hprq.out hsrq.out)
       have hbq := Aside0.mk hba
       clear hba
       go_wp2_with fail
       cases ba with
       | true =>
        go_quiet ((go_at_call 105; (with_reducible refine (hcq.out _ (pw_below_drewN hF.bel _)).mono ?_); rintro e w' ⟨rfl, ⟨nd, rfl⟩⟩; (try first | exact ⟨rfl, _, World.drewN_drewN _ _ _⟩ | exact ⟨rfl, _, Eq.trans (World.drewN_drewN _ _ _) (congrArg (World.drewN _) (Nat.add_assoc _ _ _))⟩)))
        generalize nq = n1
        have hF2 := hF.step (pw_below_drewN (Below.refl _ _) n1)
        clear hF eS kL kp ks
        generalize wo2.drewN n1 = wp at *
        obtain ⟨_, cells, hcT⟩ := row_blk hF2.tab (by rw [List.length_set, htq.out]; exact hg0q.out)
        have fT : wp.frozen? ⟨gT, s, none⟩ = false := blk_frozen hcT s
        have eS := sr_at hF2.tab (i := s) (by rw [List.length_set, htq.out]; exact hs)
        rw [List.getElem_set_self] at eS
        clear hcT cells
        have hF3 := Aside0.mk (hF2.set hgTq.out s (k : Int))
        clear hF2
        go_wp2_with fail
        go_roundg 0
        case measure => have := hkz.out; omega
        case rel => exact .inr ⟨k, k + 1, (by go_num), ⟨rfl⟩, ⟨rfl⟩, hk1, ⟨find_hit (by rw [List.length_map]; exact hk1) (by rw [List.getElem_map, hpq.out]; exact keyq.out.2 ⟨hv, hbq.out⟩) (fun x hx hxl => by rw [List.getElem_map]; exact hno.out x hx (by rwa [List.length_map] at hxl))⟩, hF3⟩
       | false =>
        go_quiet ((go_at_call 105; (with_reducible refine (hcq.out _ (pw_below_drewN hF.bel _)).mono ?_); rintro e w' ⟨rfl, ⟨nd, rfl⟩⟩; (try first | exact ⟨rfl, _, World.drewN_drewN _ _ _⟩ | exact ⟨rfl, _, Eq.trans (World.drewN_drewN _ _ _) (congrArg (World.drewN _) (Nat.add_assoc _ _ _))⟩)))
        generalize nq = n1
        have hF2 := Aside0.mk (hF.step (pw_below_drewN (Below.refl _ _) n1))
        clear hF eS kL kp ks
        generalize wo2.drewN n1 = wp at *
        go_wp2_with fail
        go_roundg (fs.length - (k + 1) + 1)
        case measure => have := hkz.out; omega
        case rel => exact .inl ⟨k + 1, (by go_num), ⟨rfl⟩, by omega, ⟨fun x hx hxl => by
          by_cases hxk : x = k
          ·subst hxk
           rw [hpq.out]
           exact fun e => by have := (keyq.out.1 e).2; rw [hbq.out] at this; cases this
          ·exact hno.out x (by omega) hxl⟩, hF2⟩
      ·have c1 : ((vp : Int) = (vs : Int)) = False := eq_false (by omega)
       have c2 : ((vp : Int) == (vs : Int)) = false := by simp <;> omega
       go_wp2_with fail
       go_quiet (fail)
       generalize nq = n1
       have hF2 := Aside0.mk (hF.step (pw_below_drewN (Below.refl _ _) n1))
       clear hF eS kL kp ks
       generalize wo2.drewN n1 = wp at *
       go_wp2_with fail
       go_roundg (fs.length - (k + 1) + 1)
       case measure => have := hkz.out; omega
       case rel => exact .inl ⟨k + 1, (by go_num), ⟨rfl⟩, by omega, ⟨fun x hx hxl => by
         by_cases hxk : x = k
         ·subst hxk
          rw [hpq.out]
          exact fun e => hv (keyq.out.1 e).1
         ·exact hno.out x (by omega) hxl⟩, hF2⟩
     ·have hk2 : ((k : Int) < (fs.length : Int)) = False := eq_false (by omega)
      have hke : k = fs.length := by omega
      obtain ⟨_, cells, hcT⟩ := row_blk hF.tab (by rw [List.length_set, htq.out]; exact hg0q.out)
      have fT : wo2.frozen? ⟨gT, s, none⟩ = false := blk_frozen hcT s
      have hF3 := hF.set hgTq.out s (fs.length : Int)
      have hgl2 : gT < wo2.heap.size := blk_lt hcT
      have hgl3 : gT < (wo2.setCell ⟨gT, s, none⟩ (.int .i64 (fs.length : Int))).heap.size := by simpa using hgl2
      have hfo := hfq.out
      have hso := hol.out
      have hNo := hN.out
      have hm : find id (ky rows g s) (fs.map (ky rows g)) = none := find_miss (fun x hx => by rw [List.getElem_map]; exact hno.out x (by rw [List.length_map] at hx; omega) (by rwa [List.length_map] at hx))
      have hNx := Aside0.mk hNo
      rw [number_step hsrq.out, hm] at hNo
      have hN3 : Aside0 (F1 = (outs ++ [fs.length]) ++ (number ((keys rows g).drop (s + 1)) ((fs ++ [s]).map (ky rows g))).1 ∧ F2 = (number ((keys rows g).drop (s + 1)) ((fs ++ [s]).map (ky rows g))).2) := ⟨by
       rw [List.map_append, List.map_singleton, List.append_assoc]
       obtain ⟨q1, q2⟩ := hNo
       exact ⟨by rw [q1, List.length_map]; rfl, q2⟩⟩
      have hfq2 : Aside0 (∀ q ∈ fs ++ [s], q < rows.length) := ⟨fun q hq => (List.mem_append.1 hq).elim (hfo q) (fun h => by rw [List.mem_singleton.1 h]; exact hsrq.out)⟩
      have htab : Aside0 ((((tabS outs g.length).set s (-1)).set s (fs.length : Int)) = tabS (outs ++ [fs.length]) g.length) := ⟨by
       have := tabS_set (outs := outs) (n := g.length) (by omega) (-1) fs.length
       rwa [hso] at this⟩
      clear hcT cells hF hgl2 hNo hfo hso hm hN hno hke hNx
      go_wp2_with ((with_reducible refine gate_builtin (b := .append) (xs := #[.tmp 73, .tmp 75]) rfl ?_); go_loud (
       at_builtin
       refine R_append' (Kd.int .i64) (w0 := w) w.heap.size rfl (.tmp 73) (.tmp 75) 75 2 (.int .i64 0) 8 rfl Tryd.underlying75 info_long rfl (by decide) (by decide) (.slice AL fs.length cL) (ints fs) (s : Int) [.int .i64 (s : Int)] (fun _ => True) (fun _ => False) _ (by simp) rfl rfl rfl (fun _ h => h.elim) (fun _ _ => trivial) hF3.lst hF3.bel (Below.size hF3.bel) (by rw [ints_length]; have := hg1q.out; omega) ?_
       intro v6 w6 hR6 hb6 hg6 hat6
       obtain ⟨A6, c6, hv6⟩ := Kd.R_slice hR6
       have ev : (ints fs ++ [(s : Int)]).length = (fs ++ [s]).length := by simp [ints, GwI.ints]
       have ei : ints fs ++ [(s : Int)] = ints (fs ++ [s]) := by simp [ints, GwI.ints]
       rw [ev] at hv6
       rw [ei] at hR6
       subst hv6
       have hF6 := hF3.push hgl3 hg6 hat6 hR6 hb6
       rw [htab.out] at hF6
       have hF7 := Aside0.mk hF6
       clear hF6 hF3 hR6 hb6 hg6 hat6 ev ei hgl3))
      go_roundg (g.length - (s + 1))
      case measure => have := hk.out; omega
      case rel => exact ⟨s + 1, fs ++ [s], outs ++ [fs.length], A6, c6, by rw [List.length_append, List.length_singleton], (by go_num), ⟨rfl⟩, by omega, ⟨by simp [hol.out]⟩, hfq2, by simp; omega, hN3, hF7⟩
    ·replace hF := hF.out
     have eS := sr_at hF.tab (i := s) (by rw [List.length_set, List.length_set, htq.out]; exact hs)
     rw [List.getElem_set_self] at eS
     have hj0 : ((j : Int) < 0) = False := eq_false (by omega)
     have hNo := hN.out
     rw [number_step hsrq.out, hfj.out] at hNo
     have hN3 : Aside0 (F1 = (outs ++ [j]) ++ (number ((keys rows g).drop (s + 1)) (fs.map (ky rows g))).1 ∧ F2 = (number ((keys rows g).drop (s + 1)) (fs.map (ky rows g))).2) := ⟨by
      rw [List.append_assoc]
      exact hNo⟩
     have hF3 := hF
     have htab : (((tabS outs g.length).set s (-1)).set s (j : Int)) = tabS (outs ++ [j]) g.length := by
      have := tabS_set (outs := outs) (n := g.length) (by have := hol.out; omega) (-1) j
      rwa [hol.out] at this
     rw [htab] at hF3
     have hF7 := Aside0.mk hF3
     have hd : ((j1 : Int) < (fs.length : Int)) = True ∨ ((j1 : Int) < (fs.length : Int)) = False := by
      by_cases h : (j1 : Int) < (fs.length : Int)
      ·exact .inl (eq_true h)
      ·exact .inr (eq_false h)
     clear hF hF3 hNo htab hN hfj
     rcases hd with hd | hd <;> (
      go_wp2_with fail
      go_roundg (g.length - (s + 1))
      case measure => have := hk.out; omega
      case rel => exact ⟨s + 1, fs, outs ++ [j], AL, cL, rfl, (by go_num), ⟨rfl⟩, by omega, ⟨by simp [hol.out]⟩, hfq, by omega, hN3, hF7⟩)
  ·have hs1 : ((s : Int) < (g.length : Int)) = False := eq_false (by omega)
   have he : s = g.length := by omega
   have hN2 := hN.out
   rw [List.drop_of_length_le (by rw [keys_length]; have := hglq.out; omega)] at hN2
   obtain ⟨e1, e2⟩ := hN2
   have e3 : outs = F1 := by rw [e1]; simp [number]
   have e4 : F2.length = fs.length := by rw [e2]; simp [number]
   have hT := h.tab
   have e5 : tabS outs g.length = ints F1 := by unfold tabS; rw [hol.out, he, Nat.sub_self, List.replicate_zero, List.append_nil, e3]
   rw [e5] at hT
   go_wp2_with fail
   go_ret2
   exact ⟨_, by rw [e4]; rfl, hT, h.bel⟩
end Go.Proofs.YtnjdkhnepmmfgaaDoor.Fi
namespace Go.Proofs.YtnjdkhnepmmfgaaDoor.Fi
set_option linter.unusedVariables false
set_option linter.unusedSimpArgs false
open Go.RowKit Go.Proofs.YtnjdkhnepmmfgaaDoorW.PrintWords Go.Proofs.YtnjdkhnepmmfgaaDoorW.PrintLast Go.Proofs.YtnjdkhnepmmfgaaDoorW.PrintMore Mp Kp Mg Tdy Rg Tw
theorem maps_eq {f : Nat → Nat} {l m : List Nat} {wd : Nat} (hl : l.length = wd) (hm : m.length = wd) : l.map f = m.map f ↔ ∀ x, x < wd → f (l.getD x 0) = f (m.getD x 0) := by
 constructor
 ·intro h x hx
  have h1 : x < l.length := by omega
  have h2 : x < m.length := by omega
  have h3 := congrArg (fun k => k[x]?) h
  simp only [List.getElem?_map, List.getElem?_eq_getElem h1, List.getElem?_eq_getElem h2, Option.map_some, Option.some.injEq] at h3
  simpa [List.getD_eq_getElem?_getD, h1, h2] using h3
 ·intro h
  refine List.ext_getElem (by rw [List.length_map, List.length_map, hl, hm]) (fun x h1 h2 => ?_)
  have g1 : x < l.length := by rwa [List.length_map] at h1
  have g2 : x < m.length := by rwa [List.length_map] at h2
  have := h x (by omega)
  rw [List.getElem_map, List.getElem_map]
  simpa [List.getD_eq_getElem?_getD, g1, g2] using this
theorem alk_of {rows : List (List Nat)} {g : List Nat} {a b wd : Nat} (ha : (rows.getD a []).length = wd) (hb : (rows.getD b []).length = wd) : alk rows g a b = true ↔ ∀ x, x < wd → g.getD ((rows.getD a []).getD x 0) 0 = g.getD ((rows.getD b []).getD x 0) 0 := by
 unfold alk
 rw [decide_eq_true_eq]
 exact maps_eq (f := fun p => g.getD p 0) ha hb
theorem row_at {w : World} {A : Option Addr} {rows : List (List Nat)} {a wd : Nat} (h : Kd.C (Kd.slice 2 (Kd.int .i64)) w A rows.length (rows.map ints)) (ha : a < rows.length) (hw : (rows.getD a []).length = wd) :
  ∃ ad Aa ca, A = some ad ∧ w.cell? (ad.add a) = some (.slice Aa wd ca) ∧ Kd.C (Kd.int .i64) w Aa wd (ints (rows.getD a [])) := by
 obtain ⟨ad, e, Aa, ca, h1, h2, h3⟩ := at_row h a (by rw [List.length_map]; exact ha)
 have e2 : (rows.map ints)[a]'(by rw [List.length_map]; exact ha) = ints (rows.getD a []) := by simp [List.getD_eq_getElem?_getD, ha]
 rw [e2] at h1 h3
 rw [ints_length, hw] at h1 h3
 exact ⟨ad, Aa, ca, e, h1, h3⟩
set_option maxHeartbeats 4000000 in
theorem alike (a0 a1 : Int) (rows : List (List Nat)) (g : List Nat) (wd : Nat) (hwide : ∀ r ∈ rows, r.length = wd) (hlt : ∀ r ∈ rows, ∀ q ∈ r, q < rows.length) (hgl : g.length = rows.length) (hwd : wd ≤ 1000) (gp : Nat) (A2 : Option Addr) (n2 c2 : Nat) (A3 : Option Addr) (c3 : Nat) (A1 : Option Addr) (c1 : Nat) (w : World)
  (hP : w.heap[gp]? = some (.cells #[.int .i64 a0, .int .i64 a1, .slice A2 n2 c2, .slice A3 rows.length c3] 27 (0, 0))) (h3 : Kd.C (Kd.slice 2 (Kd.int .i64)) w A3 rows.length (rows.map ints)) (h1 : Kd.C (Kd.int .i64) w A1 g.length (ints g)) (a b : Nat) (ha : a < rows.length) (hb : b < rows.length) :
  Calls Tryd.prog 105 #[.pointer (some ⟨gp, 0, none⟩), .slice A1 g.length c1, .int .i64 (a : Int), .int .i64 (b : Int)] w fun e W' => e = .returned (.bool (alk rows g a b)) ∧ Drawn0 w W' := by
 have ga : rows.getD a [] ∈ rows := by rw [List.getD_eq_getElem?_getD, List.getElem?_eq_getElem ha]; exact List.getElem_mem ha
 have gb : rows.getD b [] ∈ rows := by rw [List.getD_eq_getElem?_getD, List.getElem?_eq_getElem hb]; exact List.getElem_mem hb
 have la := hwide _ ga
 have lb := hwide _ gb
 have qa := hlt _ ga
 have qb := hlt _ gb
 have hak := Aside0.mk (alk_of (g := g) la lb)
 obtain ⟨R, hR⟩ : ∃ r, alk rows g a b = r := ⟨_, rfl⟩
 obtain ⟨ra, hra⟩ : ∃ r, rows.getD a [] = r := ⟨_, rfl⟩
 obtain ⟨rb, hrb⟩ : ∃ r, rows.getD b [] = r := ⟨_, rfl⟩
 have hraq := Aside0.mk (And.intro hra (hra ▸ la))
 have hrbq := Aside0.mk (And.intro hrb (hrb ▸ lb))
 have hakq : Aside0 (R = true ↔ ∀ x, x < wd → g.getD (ra.getD x 0) 0 = g.getD (rb.getD x 0) 0) := ⟨by rw [← hR, ← hra, ← hrb]; exact hak.out⟩
 have qaq : Aside0 (∀ q ∈ ra, q < rows.length) := ⟨by rw [← hra]; exact qa⟩
 have qbq : Aside0 (∀ q ∈ rb, q < rows.length) := ⟨by rw [← hrb]; exact qb⟩
 have a1q : ((a : Int) < (rows.length : Int)) = True := eq_true (by omega)
 have b1q : ((b : Int) < (rows.length : Int)) = True := eq_true (by omega)
 have a0q : (0 ≤ (a : Int)) = True := eq_true (by omega)
 have b0q : (0 ≤ (b : Int)) = True := eq_true (by omega)
 have hglq := Aside0.mk hgl
 have hwdq := Aside0.mk hwd
 have haq := Aside0.mk ha
 have hbq := Aside0.mk hb
 have hPq := Aside0.mk hP
 have h3q := Aside0.mk h3
 have h1q := Aside0.mk h1
 rw [hR]
 clear hwide hlt ga gb la lb qa qb hak hra hrb hgl hwd ha hb hP h3 h1 hR
 go_enter Tryd.func105, Tryd.ntmps105
 go_wp2_with fail
 go_loopg [9] wd (fun kq v9 W => ∃ c : Nat, v9 = .int .i64 (c : Int) ∧ Aside0 (kq = wd - c) ∧ c ≤ wd ∧ Aside0 (∀ x, x < c → g.getD (ra.getD x 0) 0 = g.getD (rb.getD x 0) 0) ∧ Aside0 (∃ n, W = w.drewN n))
 case atStart => exact ⟨0, rfl, ⟨rfl⟩, Nat.zero_le _, ⟨fun x hx => by omega⟩, ⟨0, rfl⟩⟩
 case round =>
  obtain ⟨c, rfl, hkq, hcl, heq, hW⟩ := hrel
  obtain ⟨n, hn⟩ := hW.out
  have hB : Below w.heap.size w wr := by rw [hn]; exact pw_below_drewN (Below.refl _ _) n
  have hnq := Aside0.mk hn
  have mX : wr.cell? ⟨gp, 3, none⟩ = some (.slice A3 rows.length c3) := (blk_cell (blk_below hPq.out hB) 3).trans rfl
  obtain ⟨ad, Aa, ca, eA, ka, hCa⟩ := row_at (wd := wd) (Kd.C_below h3q.out hB) haq.out (by rw [hraq.out.1]; exact hraq.out.2)
  obtain ⟨ad2, Ab, cb, eA2, kb, hCb⟩ := row_at (wd := wd) (Kd.C_below h3q.out hB) hbq.out (by rw [hrbq.out.1]; exact hrbq.out.2)
  cases eA.symm.trans eA2
  rw [hraq.out.1] at hCa
  rw [hrbq.out.1] at hCb
  have hBq := Aside0.mk hB
  clear hn hW eA2 hB
  by_cases hc : c < wd
  ·have hc1 : ((c : Int) < (wd : Int)) = True := eq_true (by omega)
   have h0c : (0 ≤ (c : Int)) = True := eq_true (by omega)
   have hcw : wrap64 ((c : Int) + 1) = ((c + 1 : Nat) : Int) := by have := hwdq.out; unfold wrap64; omega
   obtain ⟨ada, eAa, xa⟩ := at_num hCa c (by rw [ints_length, hraq.out.2]; exact hc)
   obtain ⟨adb, eAb, xb⟩ := at_num hCb c (by rw [ints_length, hrbq.out.2]; exact hc)
   rw [ints_getD] at xa xb
   obtain ⟨p, hp⟩ : ∃ p, ra.getD c 0 = p := ⟨_, rfl⟩
   obtain ⟨q, hq⟩ : ∃ q, rb.getD c 0 = q := ⟨_, rfl⟩
   have hpl : p < g.length := by
    rw [hglq.out, ← hp]
    refine qaq.out _ ?_
    rw [List.getD_eq_getElem?_getD, List.getElem?_eq_getElem (by rw [hraq.out.2]; exact hc)]
    exact List.getElem_mem _
   have hql : q < g.length := by
    rw [hglq.out, ← hq]
    refine qbq.out _ ?_
    rw [List.getD_eq_getElem?_getD, List.getElem?_eq_getElem (by rw [hrbq.out.2]; exact hc)]
    exact List.getElem_mem _
   rw [hp] at xa
   rw [hq] at xb
   obtain ⟨adg, eg, yp⟩ := at_num (Kd.C_below h1q.out hBq.out) p (by rw [ints_length]; exact hpl)
   obtain ⟨adg2, eg2, yq⟩ := at_num (Kd.C_below h1q.out hBq.out) q (by rw [ints_length]; exact hql)
   cases eg.symm.trans eg2
   rw [ints_getD] at yp yq
   have hp1 : ((p : Int) < (g.length : Int)) = True := eq_true (by omega)
   have hq1 : ((q : Int) < (g.length : Int)) = True := eq_true (by omega)
   have h0p : (0 ≤ (p : Int)) = True := eq_true (by omega)
   have h0q : (0 ≤ (q : Int)) = True := eq_true (by omega)
   obtain ⟨vp, hvp⟩ : ∃ v, g.getD p 0 = v := ⟨_, rfl⟩
   obtain ⟨vq, hvq⟩ : ∃ v, g.getD q 0 = v := ⟨_, rfl⟩
   rw [hvp] at yp
   rw [hvq] at yq
   have hpq := Aside0.mk hp
   have hqq := Aside0.mk hq
   have hvpq := Aside0.mk hvp
   have hvqq := Aside0.mk hvq
   subst eA
   subst eAa
   subst eAb
   subst eg
   clear eg2 hp hq hvp hvq hpl hql hCa hCb
   by_cases hv : vp = vq
   ·have z1 : ((vp : Int) = (vq : Int)) = True := eq_true (by omega)
    have z2 : ((vp : Int) == (vq : Int)) = true := by simp <;> omega
    have z3 : ((vp : Int) != (vq : Int)) = false := by simp <;> omega
    go_wp2_with fail
    go_quiet (fail)
    generalize nq = n1
    go_wp2_with fail
    go_roundg (wd - (c + 1))
    case measure => have := hkq.out; omega
    case rel => exact ⟨c + 1, (by go_num), ⟨rfl⟩, by omega, ⟨fun x hx => by
      by_cases hxc : x = c
      ·rw [hxc, hpq.out, hqq.out, hvpq.out, hvqq.out, hv]
      ·exact heq.out x (by omega)⟩, ⟨n + n1, by rw [hnq.out]; exact World.drewN_drewN _ _ _⟩⟩
   ·have z1 : ((vp : Int) = (vq : Int)) = False := eq_false (by omega)
    have z2 : ((vp : Int) == (vq : Int)) = false := by simp <;> omega
    have z3 : ((vp : Int) != (vq : Int)) = true := by simp <;> omega
    go_wp2_with fail
    go_quiet (fail)
    generalize nq = n1
    go_wp2_with fail
    go_ret
    have hRf : R = false := by
     cases hRR : R with
     | false => rfl
     | true =>
      have := (hakq.out.1 hRR) c hc
      rw [hpq.out, hqq.out, hvpq.out, hvqq.out] at this
      exact absurd this hv
    exact ⟨by rw [hRf]; rfl, n + n1, by rw [hnq.out]; exact World.drewN_drewN _ _ _⟩
  ·have hc1 : ((c : Int) < (wd : Int)) = False := eq_false (by omega)
   have hcw : c = wd := by omega
   subst eA
   have hRt : R = true := hakq.out.2 (fun x hx => heq.out x (by omega))
   clear hCa hCb
   go_wp2_with fail
   go_ret
   exact ⟨by rw [hRt]; rfl, n, hnq.out⟩
end Go.Proofs.YtnjdkhnepmmfgaaDoor.Fi
namespace Go.Proofs.YtnjdkhnepmmfgaaDoor.To
set_option linter.unusedVariables false
set_option linter.unusedSimpArgs false
open Go.RowKit Go.Proofs.YtnjdkhnepmmfgaaDoorW.PrintWords Go.Proofs.YtnjdkhnepmmfgaaDoorW.PrintLast Go.Proofs.YtnjdkhnepmmfgaaDoorW.PrintMore Kp Cl Mg Td Tdy
set_option maxHeartbeats 8000000 in
set_option maxRecDepth 100000 in
theorem tidyOf (tapes : Nat) (htp : tapes ≤ 3) (start : Nat) (accs : List Bool) (rows : List (List Nat)) (wd : Nat) (hwd1 : 0 < wd) (hwd2 : wd ≤ 30) (hcl : Closed wd rows accs) (hn : rows.length ≤ 100000) (hst : start < rows.length)
  (hwd : ∀ W, Calls Tryd.prog 94 #[.int .i64 tapes] W fun e W' => e = .returned (.int .i64 wd) ∧ Below W.heap.size W W')
  (dig : Nat → List Nat) (hdl : ∀ c, c < wd → (dig c).length = tapes) (hds : ∀ c, c < wd → ∀ d ∈ dig c, d < 3)
  (hdig : ∀ W c, c < wd → Calls Tryd.prog 62 #[.int .i64 tapes, .int .i64 (c : Int)] W fun e W' => ∃ v, e = .returned v ∧ Kd.R (Kd.int .i64) 3 W' W.heap.size (fun _ => True) v (ints (dig c)) ∧ Below W.heap.size W W')
  (w : World) (hG : It.Glob w) (AA : Option Addr) (ca : Nat) (AN : Option Addr) (cn : Nat) (hA : Kd.C Kd.bool w AA accs.length accs) (hN : Kd.C (Kd.slice 2 (Kd.int .i64)) w AN rows.length (rows.map ints)) (hca : accs.length ≤ ca) (hcn : rows.length ≤ cn) (bs : List Bool) (rws : List (List Nat)) (ht : Tidied wd rows accs start (padOf dig) bs rws) :
  Calls Tryd.prog 42 #[.agg #[.int .i64 tapes, .int .i64 start, .slice AA accs.length ca, .slice AN rows.length cn]] w fun e w' => ∃ vA vN, e = .returned (.agg #[.int .i64 tapes, .int .i64 0, vA, vN]) ∧
   Kd.R Kd.bool 4 w' w.heap.size (fun _ => True) vA bs ∧ Kd.R (Kd.slice 3 (Kd.int .i64)) 87 w' w.heap.size (fun _ => True) vN (rws.map ints) ∧ Below w.heap.size w w' := by
 have hlen := hcl.len
 have hmo : ∀ W, Below w.heap.size w W → _ := fun W hb => Mo.machineOf tapes start accs (rows.map ints) (by omega) (by omega) (by rw [List.length_map]; omega) (by
  intro r hr
  obtain ⟨x, hx, rfl⟩ := List.mem_map.1 hr
  rw [ints_length, hcl.wide x hx]
  omega) W AA ca AN cn (Kd.C_below hA hb) hca (by rw [List.length_map]; exact Kd.C_below hN hb) (by rw [List.length_map]; exact hcn)
 have hcl2 := Aside0.mk hcl
 have hl2 := Aside0.mk hlen
 rw [List.length_map] at hmo
 have ht2 := Aside0.mk ht
 clear hcl hlen hA hN
 go_enter Tryd.func42, Tryd.ntmps42
 go_wp2_with (first
  | (go_at_call 83; go_loud (refine (hmo _ (below_alloc (below_alloc (Below.refl _ _) _) _)).mono ?_; rintro e w1 ⟨vA, vN, rfl, r1, r2, hb1⟩; obtain ⟨A1, c1, rfl, hc1, hC1⟩ := Kd.R_reads r1; obtain ⟨A2, c2, rfl, hc2, hC2⟩ := Kd.R_reads r2; rw [List.length_map] at hc2 hC2 ⊢; have hB1 := below_step (below_alloc (below_alloc (Below.refl _ _) _) _) hb1; have bR1 := blk_below (blk_at (w.alloc (.cells #[.int .i64 (tapes : Int), .int .i64 (start : Int), .slice AA accs.length ca, .slice AN rows.length cn] 27)) (.cells #[.int .i64 0, .int .i64 0, .slice none 0 0, .slice none 0 0] 66) (w.heap.size + 1) (by simp)) hb1))
  | (go_at_call 84; go_loud (refine Calls.mono (tidy It.T It.T_size It.Glob It.glob_below It.itoa It.inj tapes htp start accs rows wd hwd1 hwd2 hcl2.out hn hst hwd dig hdl hds hdig w1 (It.glob_below _ _ hG hB1) A1 c1 A2 c2 hC1 hC2 hc1 hc2 bs rws ht2.out) ?_; rintro e w8 ⟨vA, vN, rfl, q1, q2, hb8⟩; obtain ⟨A3, c3, rfl⟩ := Kd.R_slice q1; obtain ⟨A4, c4, rfl⟩ := Kd.R_slice q2; rw [List.length_map] at q2 ⊢; have b0 := blk_below bR1 hb8; have e0 : w8.cell? ⟨w.heap.size + 1, 0, none⟩ = some (.int .i64 0) := (blk_cell b0 0).trans rfl; have e1 : w8.cell? ⟨w.heap.size + 1, 1, none⟩ = some (.int .i64 0) := (blk_cell b0 1).trans rfl; have e2 : w8.cell? ⟨w.heap.size + 1, 2, none⟩ = some (.slice none 0 0) := (blk_cell b0 2).trans rfl; have e3 : w8.cell? ⟨w.heap.size + 1, 3, none⟩ = some (.slice none 0 0) := (blk_cell b0 3).trans rfl; have g0 : w8.frozen? ⟨w.heap.size + 1, 0, none⟩ = false := blk_frozen b0 0; have g1 : w8.frozen? ⟨w.heap.size + 1, 1, none⟩ = false := blk_frozen b0 1; have g2 : w8.frozen? ⟨w.heap.size + 1, 2, none⟩ = false := blk_frozen b0 2; have g3 : w8.frozen? ⟨w.heap.size + 1, 3, none⟩ = false := blk_frozen b0 3)))
 have hB8 := below_step hB1 hb8
 have q3 := Kd.R_lower q1 (Below.size hB1)
 have q4 := Kd.R_lower q2 (Below.size hB1)
 have b1 := blk_put b0 0 (.int .i64 (tapes : Int)) rfl
 have b2 := blk_put b1 1 (.int .i64 0) rfl
 have b3 := blk_put b2 2 (.slice A3 bs.length c3) rfl
 have b4 := blk_put b3 3 (.slice A4 rws.length c4) rfl
 refine bodyPost_ret (results_cell_row rfl _ _ (w.heap.size + 1) 66 #[.int .i64 tapes, .int .i64 0, .slice A3 bs.length c3, .slice A4 rws.length c4] (0, 0) _ rfl b4 Tryd.underlying66 rfl (by kernel_rfl)) rfl ⟨_, _, rfl, ?_, ?_, ?_⟩
 ·exact Kd.R_set (Kd.R_set (Kd.R_set (Kd.R_set q3 b0 (by decide) 0 _) b1 (by decide) 1 _) b2 (by decide) 2 _) b3 (by decide) 3 _
 ·exact Kd.R_set (Kd.R_set (Kd.R_set (Kd.R_set q4 b0 (by decide) 0 _) b1 (by decide) 1 _) b2 (by decide) 2 _) b3 (by decide) 3 _
 ·exact (((hB8.setCell (by simp) _).setCell (by simp) _).setCell (by simp) _).setCell (by simp) _
end Go.Proofs.YtnjdkhnepmmfgaaDoor.To
namespace Go.Proofs.YtnjdkhnepmmfgaaDoor.Tid
set_option linter.unusedVariables false
set_option linter.unusedSimpArgs false
open Go.RowKit Go.Proofs.YtnjdkhnepmmfgaaDoorW.PrintWords Go.Proofs.YtnjdkhnepmmfgaaDoorW.PrintLast Go.Proofs.YtnjdkhnepmmfgaaDoorW.PrintMore Tdy Td Mg Rg Ti Tf PB1
def Glob (w : World) : Prop := It.Glob w
theorem glob_below {w w' : World} (h : Glob w) (hb : Below w.heap.size w w') : Glob w' := It.glob_below _ _ h hb
def nats (l : List Int) : List Nat := l.map Int.toNat
/-- What is right enough to be made tidy. -/
def okM (a0 a1 : Int) (l2 : List Bool) (l3 : List (List Int)) : Prop := (1 ≤ a0 ∧ a0 ≤ 3) ∧ (0 ≤ a1 ∧ a1 < (l3.length : Int)) ∧ l2.length = l3.length ∧ l3.length ≤ 100000 ∧ ∀ r ∈ l3, r.length = wdOf a0.toNat ∧ ∀ x ∈ r, 0 ≤ x ∧ x < (l3.length : Int)
instance (a0 a1 : Int) (l2 : List Bool) (l3 : List (List Int)) : Decidable (okM a0 a1 l2 l3) := by unfold okM; infer_instance
def tidM (a0 a1 : Int) (l2 : List Bool) (l3 : List (List Int)) : List Bool × List (List Nat) := tidL (wdOf a0.toNat) (l3.map nats) l2 a1.toNat (padT a0.toNat)
def tidF (a0 a1 : Int) (l2 : List Bool) (l3 : List (List Int)) : Option (Int × Int × List Bool × List (List Int)) := if okM a0 a1 l2 l3 then some (a0, 0, (tidM a0 a1 l2 l3).1, (tidM a0 a1 l2 l3).2.map ints) else none
def impl_tidyOf.f (a0_0 a0_1 : Int) (l0_2 : List Bool) (l0_3 : List (List Int)) : Option (Int × Int × List Bool × List (List Int)) := tidF a0_0 a0_1 l0_2 l0_3
def spec_l01Tidied.f (a0_0 a0_1 : Int) (l0_2 : List Bool) (l0_3 : List (List Int)) : Option (Int × Int × List Bool × List (List Int)) := tidF a0_0 a0_1 l0_2 l0_3
theorem nats_ints {l : List Int} (h : ∀ x ∈ l, 0 ≤ x) : ints (nats l) = l := by
 have e : (l.map Int.toNat).map Int.ofNat = l := by
  rw [List.map_map]
  conv => rhs; rw [← List.map_id l]
  exact List.map_congr_left (fun x hx => by have := h x hx; simp; omega)
 exact e
theorem rows_ints {l : List (List Int)} (h : ∀ r ∈ l, ∀ x ∈ r, 0 ≤ x) : (l.map nats).map ints = l := by
 rw [List.map_map]
 conv => rhs; rw [← List.map_id l]
 exact List.map_congr_left (fun r hr => nats_ints (h r hr))
/-- The parts of a right machine, as natural numbers. -/
structure Ok (a0 a1 : Int) (l2 : List Bool) (l3 : List (List Int)) (t s : Nat) (rows : List (List Nat)) : Prop where
 t0 : a0 = (t : Int)
 t1 : 0 < t
 t2 : t < 4
 s0 : a1 = (s : Int)
 rw_ : rows = l3.map nats
 eq : l3 = rows.map ints
 s1 : s < rows.length
 cl : Closed (wdOf t) rows l2
 n : rows.length ≤ 100000
theorem okM_ok {a0 a1 : Int} {l2 : List Bool} {l3 : List (List Int)} (h : okM a0 a1 l2 l3) : Ok a0 a1 l2 l3 a0.toNat a1.toNat (l3.map nats) := by
 obtain ⟨⟨h1, h2⟩, ⟨h3, h4⟩, h5, h6, h7⟩ := h
 have he := rows_ints (fun r hr x hx => ((h7 r hr).2 x hx).1)
 refine ⟨by omega, by omega, by omega, by omega, rfl, he.symm, by rw [List.length_map]; omega, ⟨by rw [List.length_map]; exact h5.symm, ?_, ?_⟩, by rw [List.length_map]; exact h6⟩
 ·intro r hr
  obtain ⟨r', hr', rfl⟩ := List.mem_map.1 hr
  simp only [nats, List.length_map]
  exact (h7 r' hr').1
 ·intro r hr q hq
  obtain ⟨r', hr', rfl⟩ := List.mem_map.1 hr
  obtain ⟨x, hx, rfl⟩ := List.mem_map.1 hq
  have := (h7 r' hr').2 x hx
  rw [List.length_map]
  omega
theorem two_pow {t : Nat} (h : t < 4) : 0 < 2 ^ t ∧ 2 ^ t ≤ 8 := by
 have : t = 0 ∨ t = 1 ∨ t = 2 ∨ t = 3 := by omega
 rcases this with rfl | rfl | rfl | rfl <;> decide
section
variable {a0 a1 : Int} {l2 : List Bool} {l3 : List (List Int)} {t s : Nat} {rows : List (List Nat)}
theorem Ok.pad (h : Ok a0 a1 l2 l3 t s rows) : ∀ c, c < wdOf t → padT t c < 2 ^ t := fun c hc => fin_pad t h.t2 c (by have := wd_le t h.t2; omega)
theorem Ok.made (h : Ok a0 a1 l2 l3 t s rows) : Made (wdOf t) rows l2 s (padT t) (tidL (wdOf t) rows l2 s (padT t)).1 (tidL (wdOf t) rows l2 s (padT t)).2 :=
 Ti.made h.cl h.s1 (fun c hc => Nat.lt_of_lt_of_le (h.pad c hc) (two_pow h.t2).2)
end
theorem impl_tidyOf.calls (a0_0 a0_1 : Int) (A0_2 : Option Addr) (c0_2 : Nat) (l0_2 : List Bool) (A0_3 : Option Addr) (c0_3 : Nat) (l0_3 : List (List Int)) (r1 r2 : Int) (r3 : List Bool) (r4 : List (List Int)) (w : World)
  (hr0_2 : Kd.C Kd.bool w A0_2 l0_2.length l0_2) (hc0_2 : l0_2.length ≤ c0_2) (hr0_3 : Kd.C (Kd.slice 2 (Kd.int .i64)) w A0_3 l0_3.length l0_3) (hc0_3 : l0_3.length ≤ c0_3) (hG : Glob w) (h : impl_tidyOf.f a0_0 a0_1 l0_2 l0_3 = some (r1, r2, r3, r4)) :
  Calls Tryd.prog 42 #[.agg #[.int .i64 a0_0, .int .i64 a0_1, .slice A0_2 l0_2.length c0_2, .slice A0_3 l0_3.length c0_3]] w fun e w' => ∃ v2_ v3_ : Value, e = .returned (.agg #[.int .i64 r1, .int .i64 r2, v2_, v3_]) ∧ Kd.R Kd.bool 4 w' w.heap.size (fun _ => True) v2_ r3 ∧ Kd.N (Kd.slice 3 (Kd.int .i64)) 87 w' w.heap.size (fun _ => True) v3_ r4 ∧ Below w.heap.size w w' := by
 unfold impl_tidyOf.f tidF at h
 split at h
 ·rename_i hok
  have hk := okM_ok hok
  have ht := made_tidied hk.made
  obtain ⟨rfl, rfl, rfl, rfl⟩ : a0_0 = r1 ∧ 0 = r2 ∧ (tidM a0_0 a0_1 l0_2 l0_3).1 = r3 ∧ (tidM a0_0 a0_1 l0_2 l0_3).2.map ints = r4 := by simpa using h
  have e0 := hk.t0
  have e1 := hk.s0
  have e3 := hk.eq
  have hN : Kd.C (Kd.slice 2 (Kd.int .i64)) w A0_3 (l0_3.map nats).length ((l0_3.map nats).map ints) := by rw [← e3, List.length_map]; exact hr0_3
  have hcall := To.tidyOf a0_0.toNat (by have := hk.t2; omega) a0_1.toNat l0_2 (l0_3.map nats) (wdOf a0_0.toNat) (wd_pos _ hk.t2 hk.t1) (by have := wd_le _ hk.t2; omega) hk.cl hk.n hk.s1
   (fun W => (impl_widthOf.calls 10 _ _ W (fin_wide _ hk.t2).1).mono (fun e W' hh => ⟨hh.1, hh.2.below⟩)) (digs a0_0.toNat) (fun c _ => digs_len _ _) (fun c _ => digs_lt _ _)
   (fun W c hc => (impl_digitsOf.calls 10 _ _ _ W (fin_digs _ hk.t2 c (by have := wd_le _ hk.t2; omega))).mono (fun e W' hh => by obtain ⟨v, h1, h2, h3⟩ := hh; exact ⟨v, h1, h2, h3⟩))
   w hG A0_2 c0_2 A0_3 c0_3 hr0_2 hN hc0_2 (by rw [List.length_map]; exact hc0_3) _ _ ht
  rw [List.length_map, ← e0, ← e1] at hcall
  refine hcall.mono ?_
  rintro e w' ⟨vA, vN, rfl, q1, q2, hb⟩
  exact ⟨vA, vN, rfl, q1, Kd.R_N q2, hb⟩
 ·cases h
theorem spec_l01Tidied.calls (gp0 : Nat) (a0_0 a0_1 : Int) (A0_2 : Option Addr) (c0_2 : Nat) (l0_2 : List Bool) (A0_3 : Option Addr) (c0_3 : Nat) (l0_3 : List (List Int)) (r1 r2 : Int) (r3 : List Bool) (r4 : List (List Int)) (w : World) (hb0 : w.heap[gp0]? = some (.cells #[.int .i64 a0_0, .int .i64 a0_1, .slice A0_2 l0_2.length c0_2, .slice A0_3 l0_3.length c0_3] 27 (0, 0)))
  (hr0_2 : Kd.C Kd.bool w A0_2 l0_2.length l0_2) (hc0_2 : l0_2.length ≤ c0_2) (hr0_3 : Kd.C (Kd.slice 2 (Kd.int .i64)) w A0_3 l0_3.length l0_3) (hc0_3 : l0_3.length ≤ c0_3) (h : spec_l01Tidied.f a0_0 a0_1 l0_2 l0_3 = some (r1, r2, r3, r4)) :
  Calls Tryd.prog 39 #[.pointer (some ⟨gp0, 0, none⟩)] w fun e w' => ∃ v2_ v3_ : Value, e = .returned (.agg #[.int .i64 r1, .int .i64 r2, v2_, v3_]) ∧ Kd.R Kd.bool 4 w' w.heap.size (fun _ => True) v2_ r3 ∧ Kd.S (Kd.slice 2 (Kd.int .i64)) 75 w' w.heap.size (fun _ => True) v3_ r4 ∧ Below w.heap.size w w' := by
 unfold spec_l01Tidied.f tidF at h
 split at h
 ·rename_i hok
  have hk := okM_ok hok
  have hm := hk.made
  obtain ⟨rfl, rfl, rfl, rfl⟩ : a0_0 = r1 ∧ 0 = r2 ∧ (tidM a0_0 a0_1 l0_2 l0_3).1 = r3 ∧ (tidM a0_0 a0_1 l0_2 l0_3).2.map ints = r4 := by simpa using h
  have e0 := hk.t0
  have e1 := hk.s0
  have e3 := hk.eq
  obtain ⟨t, ht⟩ : ∃ t, a0_0.toNat = t := ⟨_, rfl⟩
  obtain ⟨s, hs⟩ : ∃ s, a0_1.toNat = s := ⟨_, rfl⟩
  obtain ⟨rows, hr⟩ : ∃ rows, l0_3.map nats = rows := ⟨_, rfl⟩
  unfold tidM
  rw [ht, hs, hr] at hk hm ⊢
  rw [ht] at e0
  rw [hs] at e1
  rw [hr] at e3
  have hwd := wd_le _ hk.t2
  have hz := two_pow hk.t2
  have hP : w.heap[gp0]? = some (.cells #[.int .i64 (t : Int), .int .i64 (s : Int), .slice A0_2 l0_2.length c0_2, .slice A0_3 rows.length c0_3] 27 (0, 0)) := by
   rw [hb0, e0, e1, e3, List.length_map]
  have hN : Kd.C (Kd.slice 2 (Kd.int .i64)) w A0_3 rows.length (rows.map ints) := by
   rw [e3, List.length_map] at hr0_3
   exact hr0_3
  have hcall := Tw.tidied (t : Int) (s : Int) l0_2 (rows.map ints) (wdOf t) (wd_pos _ hk.t2 hk.t1) (by omega) w gp0 A0_2 c0_2 A0_3 c0_3 (by rw [List.length_map]; exact hP)
   (fun accs rowsY => ∃ li rw_, Rgt (wdOf t) rows.length (2 ^ t) rows (padT t) s li rw_ ∧ accs = accsX l0_2 (2 ^ t) li ∧ rowsY = rowsX (wdOf t) li.length rw_ ∧ li.length ≤ 800000) ?_ ?_ (tidL (wdOf t) rows l0_2 s (padT t)).1 (tidL (wdOf t) rows l0_2 s (padT t)).2 ?_
  ·rw [e0]
   exact hcall
  ·intro W hbW
   refine (Rg.right t (by have := hk.t2; omega) (2 ^ t) rfl s l0_2 rows (wdOf t) (wd_pos _ hk.t2 hk.t1) (by omega) hk.cl hk.n hk.s1 (enC (padT t)) (fun e c e' _ hc h => ?_)
    (fun W => (spec_l01Wide.calls 10 _ _ W (fin_wide _ hk.t2).2).mono (fun e W' hh => ⟨hh.1, hh.2.below⟩))
    (fun W e c he hc => (spec_l01Ended.calls 60 _ _ _ _ W (fin_ended t hk.t2 e he c hc)).mono (fun e W' hh => ⟨hh.1, hh.2.below⟩)) W gp0 A0_2 c0_2 A0_3 c0_3 (blk_below hP hbW) (Kd.C_below hr0_2 hbW) (Kd.C_below hN hbW)).mono ?_
   ·unfold enC at h
    split at h
    ·cases h
     exact hk.pad c hc
    ·cases h
   ·rintro e w1 ⟨vA, vN, li, rw_, rfl, q1, q2, h1, h2, h3, h4, h5, h6, hb⟩
    have hle : rows.length * 2 ^ t ≤ 100000 * 8 := Nat.mul_le_mul hk.n hz.2
    exact ⟨_, _, ⟨li, rw_, ⟨h1, h2, h3, h4⟩, rfl, rfl, by omega⟩, vA, vN, rfl, q1, by rw [rowsX_ints h2]; exact q2, hb⟩
  ·rintro accs rowsY ⟨li, rw_, hR, rfl, rfl, hle⟩ W gx A2 c2 A3 c3 A1 c1 g hbX hA2 hc2 hA3 hc3 hA1 hc1 hgl
   have hc := rgt_closed (accs := l0_2) hR
   exact Fi.finer (t : Int) 0 (accsX l0_2 (2 ^ t) li) (rowsX (wdOf t) li.length rw_) g hgl (by rw [rowsX_len hR]; omega) (by rw [rowsX_len hR]; omega) W gx A1 c1 (blk_lt hbX) hA1
    (fun W' x y hb hx hy => Fi.alike (t : Int) 0 (rowsX (wdOf t) li.length rw_) g (wdOf t) hc.wide hc.lt hgl (by omega) gx A2 _ c2 A3 c3 A1 c1 W' (blk_below hbX hb) (Kd.C_below hA3 hb) (Kd.C_below hA1 hb) x y hx hy)
  ·rintro accs rowsY ⟨li, rw_, hR, rfl, rfl, hle⟩
   exact ⟨rgt_closed hR, by rw [rowsX_len hR]; omega, by rw [rowsX_len hR]; omega, made_spec hm hR (fun c hc => hk.pad c hc) hz.1⟩
 ·cases h
end Go.Proofs.YtnjdkhnepmmfgaaDoor.Tid
namespace Go.Proofs.YtnjdkhnepmmfgaaDoor.Sbf
set_option linter.unusedVariables false
set_option linter.unusedSimpArgs false
open Go.RowKit Go.Proofs.YtnjdkhnepmmfgaaDoorW.PrintWords Go.Proofs.YtnjdkhnepmmfgaaDoorW.PrintLast Go.Proofs.YtnjdkhnepmmfgaaDoorW.PrintMore Tdy Mg Tw Tid Lv Sb PC1
theorem pairF_inv {lv : Nat → Bool} {n : Nat} {li : List Nat} {r : List Nat} (hr8 : r.length = 8) (hrl : ∀ q ∈ r, q < n) {a b : Nat} (ha : a ≤ 2) (hb : b ≤ 2) {s s' : St} (h : Inv n li s) (hp : pairF lv r a b s = some s') : Inv n li s' := by
 unfold pairF at hp
 split at hp
 ·cases hp; exact h
 ·split at hp
  ·cases hp; exact h
  ·split at hp
   ·cases hp
   ·rename_i h1 h2 h3
    have hc8 : a + 3 * b < r.length := by omega
    have ht : r.getD (a + 3 * b) 0 < n := by
     have e : r.getD (a + 3 * b) 0 = r[a + 3 * b] := by simp [List.getD_eq_getElem?_getD, hc8]
     rw [e]
     exact hrl _ (List.getElem_mem hc8)
    split at hp
    ·cases hp; exact h.set _ _ _
    ·rename_i hf
     cases hp
     exact h.more ht hf _ _ _
theorem runB_inv {lv : Nat → Bool} {n : Nat} {li : List Nat} {r : List Nat} (hr8 : r.length = 8) (hrl : ∀ q ∈ r, q < n) {a : Nat} (ha : a ≤ 2) : ∀ (bs : List Nat) (s s' : St), (∀ b ∈ bs, b ≤ 2) → Inv n li s → runB lv r a bs s = some s' → Inv n li s'
 | [], s, s', _, h, hp => by cases hp; exact h
 | b :: bs, s, s', hb, h, hp => by
  unfold runB at hp
  obtain ⟨s1, h1, h2⟩ := Option.bind_eq_some_iff.1 hp
  exact runB_inv hr8 hrl ha bs s1 s' (fun x hx => hb x (List.mem_cons_of_mem _ hx)) (pairF_inv hr8 hrl ha (hb b List.mem_cons_self) h h1) h2
theorem runA_inv {lv : Nat → Bool} {n : Nat} {li : List Nat} {r : List Nat} (hr8 : r.length = 8) (hrl : ∀ q ∈ r, q < n) : ∀ (l : List Nat) (s s' : St), (∀ a ∈ l, a ≤ 2) → Inv n li s → runA lv r l s = some s' → Inv n li s'
 | [], s, s', _, h, hp => by cases hp; exact h
 | a :: l, s, s', ha, h, hp => by
  unfold runA at hp
  obtain ⟨s1, h1, h2⟩ := Option.bind_eq_some_iff.1 hp
  exact runA_inv hr8 hrl l s1 s' (fun x hx => ha x (List.mem_cons_of_mem _ hx)) (runB_inv hr8 hrl (ha a List.mem_cons_self) _ s s1 (by decide) h h1) h2
section
variable {rows : List (List Nat)} {accs : List Bool}
theorem row_at (hcl : Closed 8 rows accs) {q : Nat} (hq : q < rows.length) : (rows.getD q []).length = 8 ∧ ∀ t ∈ rows.getD q [], t < rows.length := by
 have e : rows.getD q [] = rows[q] := by simp [List.getD_eq_getElem?_getD, hq]
 rw [e]
 exact ⟨hcl.wide _ (List.getElem_mem hq), hcl.lt _ (List.getElem_mem hq)⟩
/-- As many rounds as states, and one, are enough. -/
theorem scr_some (hcl : Closed 8 rows accs) (lv : Nat → Bool) : ∀ (f i : Nat) (li : List Nat) (nx : List (List Int)) (ot : List (List ByteArray)), i ≤ li.length → (∀ q ∈ li, q < rows.length) → li.Nodup → rows.length < f + i → ∃ res, scr lv rows f i li nx ot = some res
 | 0, i, li, nx, ot, hi, hl, hd, hf => by
  have := Go.Proofs.YtnjdkhnepmmfgaaDoor.Tdy.nodup_le (l := li) (m := List.range rows.length) hd (fun x hx => List.mem_range.2 (hl x hx))
  rw [List.length_range] at this
  omega
 | f + 1, i, li, nx, ot, hi, hl, hd, hf => by
  unfold scr
  by_cases h : i < li.length
  ·rw [dif_pos h]
   obtain ⟨h8, hrl⟩ := row_at hcl (hl _ (List.getElem_mem h))
   cases hr : rowT lv (rows.getD li[i] []) li with
   | none => exact ⟨none, rfl⟩
   | some s =>
    have hv : Inv rows.length li s := runA_inv h8 hrl _ _ s (by decide) (Inv.start hl hd) hr
    obtain ⟨m, hm⟩ := hv.pre
    exact scr_some hcl lv f (i + 1) s.1 _ _ (by rw [hm, List.length_append]; omega) hv.lt hv.nd (by omega)
  ·rw [dif_neg h]
   exact ⟨_, rfl⟩
end
/-- The scribe that is made: marks, numbers, letters, whether there is one. -/
def scribeF (rows : List (List Nat)) (accs : List Bool) (st : Nat) : List Bool × List (List Int) × List (List ByteArray) × Bool :=
 if live rows accs st = false then ([false], [[-1, -1]], [[⟨#[]⟩, ⟨#[]⟩]], true) else outcome accs ((scr (live rows accs) rows (rows.length + 1) 0 [st] [] []).getD none)
/-- What is right enough. -/
def okS (a1 : Int) (l2 : List Bool) (l3 : List (List Int)) : Prop := (0 ≤ a1 ∧ a1 < (l3.length : Int)) ∧ l2.length = l3.length ∧ l3.length ≤ 1000000 ∧ ∀ r ∈ l3, r.length = 8 ∧ ∀ x ∈ r, 0 ≤ x ∧ x < (l3.length : Int)
instance (a1 : Int) (l2 : List Bool) (l3 : List (List Int)) : Decidable (okS a1 l2 l3) := by unfold okS; infer_instance
def scrF (a1 : Int) (l2 : List Bool) (l3 : List (List Int)) : Option (List Bool × List (List Int) × List (List ByteArray) × Bool) := if okS a1 l2 l3 then some (scribeF (l3.map nats) l2 a1.toNat) else none
def impl_machine_scribe.f (a0_0 a0_1 : Int) (l0_2 : List Bool) (l0_3 : List (List Int)) : Option (List Bool × List (List Int) × List (List ByteArray) × Bool) := scrF a0_1 l0_2 l0_3
theorem okS_ok {a1 : Int} {l2 : List Bool} {l3 : List (List Int)} (h : okS a1 l2 l3) : a1 = (a1.toNat : Int) ∧ l3 = (l3.map nats).map ints ∧ a1.toNat < (l3.map nats).length ∧ Closed 8 (l3.map nats) l2 ∧ (l3.map nats).length ≤ 1000000 := by
 obtain ⟨⟨h3, h4⟩, h5, h6, h7⟩ := h
 have he := rows_ints (fun r hr x hx => ((h7 r hr).2 x hx).1)
 refine ⟨by omega, he.symm, by rw [List.length_map]; omega, ⟨by rw [List.length_map]; exact h5.symm, ?_, ?_⟩, by rw [List.length_map]; exact h6⟩
 ·intro r hr
  obtain ⟨r', hr', rfl⟩ := List.mem_map.1 hr
  simp only [nats, List.length_map]
  exact (h7 r' hr').1
 ·intro r hr q hq
  obtain ⟨r', hr', rfl⟩ := List.mem_map.1 hr
  obtain ⟨x, hx, rfl⟩ := List.mem_map.1 hq
  have := (h7 r' hr').2 x hx
  rw [List.length_map]
  omega
theorem col_is (a b : Nat) (ha : a ≤ 2) (hb : b ≤ 2) : impl_columnOf.f 5 [(a : Int), (b : Int)] = some ((a + 3 * b : Nat) : Int) := by
 match a, b, ha, hb with
 | 0, 0, _, _ => decide +kernel
 | 0, 1, _, _ => decide +kernel
 | 0, 2, _, _ => decide +kernel
 | 1, 0, _, _ => decide +kernel
 | 1, 1, _, _ => decide +kernel
 | 1, 2, _, _ => decide +kernel
 | 2, 0, _, _ => decide +kernel
 | 2, 1, _, _ => decide +kernel
 | 2, 2, _, _ => decide +kernel
theorem impl_machine_scribe.calls (a0_0 a0_1 : Int) (A0_2 : Option Addr) (c0_2 : Nat) (l0_2 : List Bool) (A0_3 : Option Addr) (c0_3 : Nat) (l0_3 : List (List Int)) (r1 : List Bool) (r2 : List (List Int)) (r3 : List (List ByteArray)) (r4 : Bool) (w : World)
  (hr0_2 : Kd.C Kd.bool w A0_2 l0_2.length l0_2) (hc0_2 : l0_2.length ≤ c0_2) (hr0_3 : Kd.C (Kd.slice 3 (Kd.int .i64)) w A0_3 l0_3.length l0_3) (hc0_3 : l0_3.length ≤ c0_3) (h : impl_machine_scribe.f a0_0 a0_1 l0_2 l0_3 = some (r1, r2, r3, r4)) :
  Calls Tryd.prog 43 #[.agg #[.int .i64 a0_0, .int .i64 a0_1, .slice A0_2 l0_2.length c0_2, .slice A0_3 l0_3.length c0_3]] w fun e w' => ∃ v1 v2 v3 : Value, e = .returned (.tuple #[.agg #[v1, v2, v3], .bool r4]) ∧ Kd.R Kd.bool 4 w' w.heap.size (fun _ => True) v1 r1 ∧ Kd.R Pair 78 w' w.heap.size (fun _ => True) v2 r2 ∧ Kd.R Text2 79 w' w.heap.size (fun _ => True) v3 r3 ∧ Below w.heap.size w w' := by
 unfold impl_machine_scribe.f scrF at h
 split at h
 ·rename_i hok
  obtain ⟨e1, e3, hst, hcl, hn⟩ := okS_ok hok
  have h' := Option.some.inj h
  clear h hok
  obtain ⟨st, hs⟩ : ∃ st, a0_1.toNat = st := ⟨_, rfl⟩
  obtain ⟨rows, hr⟩ : ∃ rows, l0_3.map nats = rows := ⟨_, rfl⟩
  rw [hs] at e1 hst h'
  rw [hr] at e3 hst hcl hn h'
  subst e1
  subst e3
  rw [List.length_map] at hr0_3 hc0_3 ⊢
  clear hs hr
  have hfl : (distL rows l0_2 rows.length).length = rows.length := by simp [distL]
  have hfr : ∀ q, q < rows.length → ((distL rows l0_2 rows.length).getD q (-1) < 0 ↔ live rows l0_2 q = false) := fun q hq => by
   have e : (distL rows l0_2 rows.length).getD q (-1) = dist rows l0_2 rows.length q := by simp [distL, List.getD_eq_getElem?_getD, hq]
   rw [e]
   have h2 := dist_live (rows := rows) (accs := l0_2) rows.length q
   unfold live
   constructor
   ·intro h3
    cases h4 : liveK rows l0_2 rows.length q with
    | false => rfl
    | true => have := h2.2 h4; omega
   ·intro h3
    have h5 : ¬ 0 ≤ dist rows l0_2 rows.length q := fun h6 => by rw [h2.1 h6] at h3; cases h3
    omega
  obtain ⟨k, hk⟩ := (far_ev hcl (by omega) hn a0_0 (st : Int)).rounds
  have hfar : ∀ W, Below w.heap.size w W → Calls Tryd.prog 85 #[.agg #[.int .i64 a0_0, .int .i64 st, .slice A0_2 l0_2.length c0_2, .slice A0_3 rows.length c0_3]] W fun e W' => ∃ v, e = .returned v ∧ Kd.R (Kd.int .i64) 3 W' W.heap.size (fun _ => True) v (distL rows l0_2 rows.length) ∧ Below W.heap.size W W' := fun W hb => by
   have := impl_machine_far.calls k a0_0 (st : Int) A0_2 c0_2 l0_2 A0_3 c0_3 (rows.map ints) _ W (Kd.C_below hr0_2 hb) hc0_2 (by rw [List.length_map]; exact Kd.C_below hr0_3 hb) (by rw [List.length_map]; exact hc0_3) hk
   rwa [List.length_map] at this
  have hcol : ∀ W A c (a b : Nat), a ≤ 2 → b ≤ 2 → Kd.C (Kd.int .i64) W A 2 [(a : Int), (b : Int)] → 2 ≤ c → Calls Tryd.prog 86 #[.slice A 2 c] W fun e W' => e = .returned (.int .i64 ((a + 3 * b : Nat) : Int)) ∧ Below W.heap.size W W' := fun W A c a b ha hb hC hc =>
   (impl_columnOf.calls 5 A c [(a : Int), (b : Int)] _ W hC hc (col_is a b ha hb)).mono (fun e W' hh => ⟨hh.1, hh.2.below⟩)
  unfold scribeF at h'
  cases hl : live rows l0_2 st with
  | false =>
   rw [if_pos hl] at h'
   injection h' with h1 h'
   injection h' with h2 h'
   injection h' with h3 h4
   subst h1; subst h2; subst h3; subst h4
   exact scribe_dead a0_0 st l0_2 rows hcl hn hst (live rows l0_2) _ hfl hfr w A0_2 c0_2 A0_3 c0_3 hr0_2 hr0_3 hc0_2 hc0_3 hfar hcol hl
  | true =>
   rw [if_neg (by rw [hl]; simp)] at h'
   obtain ⟨res, hres⟩ := scr_some hcl (live rows l0_2) (rows.length + 1) 0 [st] [] [] (by simp) (fun q hq => by rw [List.mem_singleton.1 hq]; exact hst) (by simp) (by omega)
   rw [hres] at h'
   have h1 : (outcome l0_2 res).1 = r1 := congrArg (·.1) h'
   have h2 : (outcome l0_2 res).2.1 = r2 := congrArg (·.2.1) h'
   have h3 : (outcome l0_2 res).2.2.1 = r3 := congrArg (·.2.2.1) h'
   have h4 : (outcome l0_2 res).2.2.2 = r4 := congrArg (·.2.2.2) h'
   subst h1; subst h2; subst h3; subst h4
   exact scribe a0_0 st l0_2 rows hcl hn hst (live rows l0_2) _ hfl hfr w A0_2 c0_2 A0_3 c0_3 hr0_2 hr0_3 hc0_2 hc0_3 hfar hcol hl _ res hres
 ·cases h
end Go.Proofs.YtnjdkhnepmmfgaaDoor.Sbf
namespace Go.Proofs.YtnjdkhnepmmfgaaDoor.Sbf
set_option linter.unusedVariables false
set_option linter.unusedSimpArgs false
open Go.RowKit Go.Proofs.YtnjdkhnepmmfgaaDoorW.PrintWords Go.Proofs.YtnjdkhnepmmfgaaDoorW.PrintLast Go.Proofs.YtnjdkhnepmmfgaaDoorW.PrintMore Tdy Mg Tw Tid Lv Sb PB1 PC1
def spec_l07Scribe.f (a0_0 a0_1 : Int) (l0_2 : List Bool) (l0_3 : List (List Int)) : Option (List Bool × List (List Int) × List (List ByteArray) × Bool) := scrF a0_1 l0_2 l0_3
theorem wide_two : spec_l01Wide.f 10 2 = some 8 := by decide +kernel
theorem dig_zero : ∀ c : Nat, c < 8 → spec_l01Digit.f 10 (c : Int) 0 = some ((c % 3 : Nat) : Int) := by decide +kernel
theorem dig_one : ∀ c : Nat, c < 8 → spec_l01Digit.f 10 (c : Int) 1 = some ((c / 3 : Nat) : Int) := by decide +kernel
theorem spec_l07Scribe.calls (gp0 : Nat) (a0_0 a0_1 : Int) (A0_2 : Option Addr) (c0_2 : Nat) (l0_2 : List Bool) (A0_3 : Option Addr) (c0_3 : Nat) (l0_3 : List (List Int)) (r1 : List Bool) (r2 : List (List Int)) (r3 : List (List ByteArray)) (r4 : Bool) (w : World) (hb0 : w.heap[gp0]? = some (.cells #[.int .i64 a0_0, .int .i64 a0_1, .slice A0_2 l0_2.length c0_2, .slice A0_3 l0_3.length c0_3] 27 (0, 0)))
  (hr0_2 : Kd.C Kd.bool w A0_2 l0_2.length l0_2) (hc0_2 : l0_2.length ≤ c0_2) (hr0_3 : Kd.C (Kd.slice 2 (Kd.int .i64)) w A0_3 l0_3.length l0_3) (hc0_3 : l0_3.length ≤ c0_3) (h : spec_l07Scribe.f a0_0 a0_1 l0_2 l0_3 = some (r1, r2, r3, r4)) :
  Calls Tryd.prog 40 #[.pointer (some ⟨gp0, 0, none⟩)] w fun e w' => ∃ v1 v2 v3 : Value, e = .returned (.tuple #[.agg #[v1, v2, v3], .bool r4]) ∧ Kd.R Kd.bool 4 w' w.heap.size (fun _ => True) v1 r1 ∧ Kd.R Pair 78 w' w.heap.size (fun _ => True) v2 r2 ∧ Kd.R Text2 79 w' w.heap.size (fun _ => True) v3 r3 ∧ Below w.heap.size w w' := by
 unfold spec_l07Scribe.f scrF at h
 split at h
 ·rename_i hok
  obtain ⟨e1, e3, hst, hcl, hn⟩ := okS_ok hok
  have h' := Option.some.inj h
  clear h hok
  obtain ⟨st, hs⟩ : ∃ st, a0_1.toNat = st := ⟨_, rfl⟩
  obtain ⟨rows, hr⟩ : ∃ rows, l0_3.map nats = rows := ⟨_, rfl⟩
  rw [hs] at e1 hst h'
  rw [hr] at e3 hst hcl hn h'
  subst e1
  subst e3
  rw [List.length_map] at hb0 hr0_3 hc0_3
  clear hs hr
  obtain ⟨k, hk⟩ := (live_ev hcl (by omega) hn a0_0 (st : Int)).rounds
  have hfar : ∀ W, Below w.heap.size w W → Calls Tryd.prog 81 #[.pointer (some ⟨gp0, 0, none⟩)] W fun e W' => ∃ v, e = .returned v ∧ Kd.R Kd.bool 4 W' W.heap.size (fun _ => True) v ((List.range rows.length).map (live rows l0_2)) ∧ Below W.heap.size W W' := fun W hb =>
   spec_l07Live.calls k gp0 a0_0 (st : Int) A0_2 c0_2 l0_2 A0_3 c0_3 (rows.map ints) _ W (by rw [List.length_map]; exact blk_below hb0 hb) (Kd.C_below hr0_2 hb) hc0_2 (by rw [List.length_map]; exact Kd.C_below hr0_3 hb) (by rw [List.length_map]; exact hc0_3) hk
  have hwide : ∀ W, Calls Tryd.prog 53 #[.int .i64 2] W fun e W' => e = .returned (.int .i64 8) ∧ Below W.heap.size W W' := fun W =>
   (spec_l01Wide.calls 10 _ _ W wide_two).mono (fun e W' hh => ⟨hh.1, hh.2.below⟩)
  have hd0 : ∀ W (c : Nat), c < 8 → Calls Tryd.prog 54 #[.int .i64 (c : Int), .int .i64 0] W fun e W' => e = .returned (.int .i64 ((c % 3 : Nat) : Int)) ∧ Below W.heap.size W W' := fun W c hc =>
   (spec_l01Digit.calls 10 _ _ _ W (dig_zero c hc)).mono (fun e W' hh => ⟨hh.1, hh.2.below⟩)
  have hd1 : ∀ W (c : Nat), c < 8 → Calls Tryd.prog 54 #[.int .i64 (c : Int), .int .i64 1] W fun e W' => e = .returned (.int .i64 ((c / 3 : Nat) : Int)) ∧ Below W.heap.size W W' := fun W c hc =>
   (spec_l01Digit.calls 10 _ _ _ W (dig_one c hc)).mono (fun e W' hh => ⟨hh.1, hh.2.below⟩)
  unfold scribeF at h'
  cases hl : live rows l0_2 st with
  | false =>
   rw [if_pos hl] at h'
   injection h' with h1 h'
   injection h' with h2 h'
   injection h' with h3 h4
   subst h1; subst h2; subst h3; subst h4
   exact Sp.scribe_dead a0_0 st l0_2 rows hcl hn hst (live rows l0_2) w gp0 A0_2 c0_2 A0_3 c0_3 hb0 hr0_2 hr0_3 hc0_2 hc0_3 hfar hwide hd0 hd1 hl
  | true =>
   rw [if_neg (by rw [hl]; simp)] at h'
   obtain ⟨res, hres⟩ := scr_some hcl (live rows l0_2) (rows.length + 1) 0 [st] [] [] (by simp) (fun q hq => by rw [List.mem_singleton.1 hq]; exact hst) (by simp) (by omega)
   rw [hres] at h'
   have h1 : (outcome l0_2 res).1 = r1 := congrArg (·.1) h'
   have h2 : (outcome l0_2 res).2.1 = r2 := congrArg (·.2.1) h'
   have h3 : (outcome l0_2 res).2.2.1 = r3 := congrArg (·.2.2.1) h'
   have h4 : (outcome l0_2 res).2.2.2 = r4 := congrArg (·.2.2.2) h'
   subst h1; subst h2; subst h3; subst h4
   exact Sp.scribe a0_0 st l0_2 rows hcl hn hst (live rows l0_2) w gp0 A0_2 c0_2 A0_3 c0_3 hb0 hr0_2 hr0_3 hc0_2 hc0_3 hfar hwide hd0 hd1 hl _ res hres
 ·cases h
end Go.Proofs.YtnjdkhnepmmfgaaDoor.Sbf
namespace Go.Proofs.YtnjdkhnepmmfgaaDoor.Ti
set_option linter.unusedVariables false
set_option linter.unusedSimpArgs false
open Go.RowKit Go.Proofs.YtnjdkhnepmmfgaaDoorW.PrintWords Go.Proofs.YtnjdkhnepmmfgaaDoorW.PrintLast Go.Proofs.YtnjdkhnepmmfgaaDoorW.PrintMore Tdy Td Mg Rg
section
variable {wd : Nat} {rows : List (List Nat)} {accs : List Bool} {start : Nat} {pad : Nat → Nat} {bs : List Bool} {rws : List (List Nat)}
/-- What is made is a right machine of the same language. -/
theorem made_good (hm : Made wd rows accs start pad bs rws) : Closed wd rws bs ∧ 0 < rws.length ∧ rws.length ≤ 8 * rows.length + 1 ∧ Same wd (mach rws bs) (right (mach rows accs) (okC pad) pad) 0 (some (start, 0)) := by
 obtain ⟨lp, rp, g, l, h1, h2, h3, rfl, c1, hrp, s1, k1, o1, hle⟩ := hm.is
 unfold byClass at h3
 obtain ⟨hd, m, hm2⟩ := bfs_done _ 0 [g.getD 0 0] [] l rws h3 (Nat.zero_le _) rfl (List.pairwise_singleton _ _) (fun r hr => by cases hr) (fun i hi => by cases hi)
 have hl0 : 0 < l.length := by rw [hm2]; simp
 have hall : ∀ a ∈ l, ∃ x, x < rp.length ∧ a = g.getD x 0 := bfs_all (Q := fun a => ∃ x, x < rp.length ∧ a = g.getD x 0) (by
  rintro a ⟨x, hx, rfl⟩ c hc
  exact ⟨_, c1.step (o1.lt x hx) (List.mem_range.1 hc), rfl⟩) _ 0 _ _ l rws h3 (fun a ha => by rw [List.mem_singleton.1 ha]; exact ⟨0, hrp, rfl⟩)
 have hlen : l.length ≤ rp.length := by
  have hnd : l.Nodup := hd.apart
  have := nodup_le (m := (List.range rp.length).map (fun x => g.getD x 0)) hnd (fun a ha => by
   obtain ⟨x, hx, rfl⟩ := hall a ha
   exact List.mem_map.2 ⟨x, List.mem_range.2 hx, rfl⟩)
  simpa using this
 have hrl : rp.length = lp.length := by have := c1.len; simpa using this
 refine ⟨done_closed _ hd, by rw [hd.len]; exact hl0, by rw [hd.len]; omega, ?_⟩
 have hds := done_same (A := ⟨fun a c => g.getD ((rp.getD (oneOf g a) []).getD c 0) 0, fun a => (lp.map (accP accs)).getD (oneOf g a) false⟩) hd hl0
 have e0 : l[0] = g.getD 0 0 := by
  have h : l[0]? = some (g.getD 0 0) := by rw [hm2]; rfl
  rw [List.getElem?_eq_getElem hl0] at h
  exact Option.some.inj h
 rw [e0] at hds
 refine (hds.trans ?_).trans s1
 refine Same.of (R := fun a x => ∃ y, y < rp.length ∧ x < rp.length ∧ a = g.getD y 0 ∧ Same wd (mach rp (lp.map (accP accs))) (mach rp (lp.map (accP accs))) y x) ?_ ?_ ⟨0, hrp, hrp, rfl, Same.refl _ _ _⟩
 ·rintro a x ⟨y, hy, hx, rfl, hs⟩
  exact (((k1.iff_ _ _ (o1.lt y hy) hy).1 (o1.eq y hy)).trans hs).acc
 ·rintro a x ⟨y, hy, hx, rfl, hs⟩ c hc
  have hsx := ((k1.iff_ _ _ (o1.lt y hy) hy).1 (o1.eq y hy)).trans hs
  exact ⟨_, c1.step (o1.lt y hy) hc, c1.step hx hc, rfl, hsx.step hc⟩
end
end Go.Proofs.YtnjdkhnepmmfgaaDoor.Ti
namespace Go.Proofs.YtnjdkhnepmmfgaaDoor.Il
set_option linter.unusedVariables false
set_option linter.unusedSimpArgs false
open Go.RowKit Go.Proofs.YtnjdkhnepmmfgaaDoorW.PrintWords Go.Proofs.YtnjdkhnepmmfgaaDoorW.PrintLast Go.Proofs.YtnjdkhnepmmfgaaDoorW.PrintMore Kp Tdy Mg Tid Tf Ti Sb Sbf PT3 PureRel Lr
section
variable {t s : Int} {a : List Bool} {b : List (List Int)}
/-- A valid relation is right enough to be made tidy. -/
theorem ok_tidy (h : okR t s a b = true) : okM t s a b := by
 unfold okR okF at h
 simp only [Bool.and_eq_true, decide_eq_true_eq, List.all_eq_true] at h
 obtain ⟨h150, ⟨⟨⟨ht, hl⟩, hs⟩, hb⟩, hr⟩ := h
 unfold okX at hs
 simp only [decide_eq_true_eq] at hs
 refine ⟨ht, by omega, by omega, by omega, fun r hm => ?_⟩
 have h1 := hr r hm
 unfold okW okX at h1
 simp only [Bool.and_eq_true, decide_eq_true_eq, List.all_eq_true] at h1
 exact ⟨h1.1, fun x hx => by have := h1.2 x hx; omega⟩
theorem tidF_is (h : okR t s a b = true) : tidF t s a b = some (t, 0, (tidM t s a b).1, (tidM t s a b).2.map ints) := by
 unfold tidF
 rw [if_pos (ok_tidy h)]
/-- The tidy machine of a valid relation is right enough for a scribe. -/
theorem tid_okS (h : okR t s a b = true) (ht : t = 2) : okS 0 (tidM t s a b).1 ((tidM t s a b).2.map ints) := by
 subst ht
 have hk := okM_ok (ok_tidy h)
 obtain ⟨hc, h0, hle, _⟩ := made_good hk.made
 have hw : wdOf (2 : Int).toNat = 8 := rfl
 have hn : b.length ≤ 100000 := by have := hk.n; rwa [List.length_map] at this
 unfold tidM
 rw [hw] at hc
 have hle2 : (tidL (wdOf (2 : Int).toNat) (b.map nats) a s.toNat (padT (2 : Int).toNat)).2.length ≤ 8 * b.length + 1 := by have := hle; rwa [List.length_map] at this
 refine ⟨⟨Int.le_refl _, by rw [List.length_map]; exact_mod_cast h0⟩, by rw [List.length_map]; exact hc.len.symm, by rw [List.length_map]; omega, fun r hr => ?_⟩
 obtain ⟨r', h1, rfl⟩ := List.mem_map.1 hr
 refine ⟨by rw [ints_length]; exact hc.wide r' h1, fun x hx => ?_⟩
 have hx' : x ∈ r'.map Int.ofNat := hx
 obtain ⟨y, hy, rfl⟩ := List.mem_map.1 hx'
 have := hc.lt r' h1 y hy
 rw [List.length_map]
 exact ⟨by simp, Int.ofNat_lt.2 this⟩
/-- The scribe of a relation. -/
def scrR (t s : Int) (a : List Bool) (b : List (List Int)) : List Bool × List (List Int) × List (List ByteArray) × Bool := scribeF ((tidM t s a b).2) (tidM t s a b).1 0
theorem nats_of (l : List (List Nat)) : (l.map ints).map nats = l := by
 rw [List.map_map]
 conv => rhs; rw [← List.map_id l]
 refine List.map_congr_left (fun r _ => ?_)
 have : (r.map Int.ofNat).map Int.toNat = r := by
  rw [List.map_map]
  conv => rhs; rw [← List.map_id r]
  exact List.map_congr_left (fun x _ => by simp)
 exact this
theorem scr_tid (h : okR t s a b = true) (ht : t = 2) : scrF 0 (tidM t s a b).1 ((tidM t s a b).2.map ints) = some (scrR t s a b) := by
 unfold scrF scrR
 rw [if_pos (tid_okS h ht), nats_of]
 rfl
theorem two_ok (h : twoC t s a b = 0) : okR t s a b = true ∧ t = 2 := by
 unfold twoC at h
 by_cases h1 : okR t s a b = true
 ·rw [if_pos h1] at h
  by_cases h2 : t = 2
  ·exact ⟨h1, h2⟩
  ·rw [if_neg h2] at h; cases h
 ·rw [if_neg h1] at h; cases h
end
end Go.Proofs.YtnjdkhnepmmfgaaDoor.Il
namespace Go.Proofs.YtnjdkhnepmmfgaaDoor.Scn
set_option linter.unusedVariables false
set_option linter.unusedSimpArgs false
open Go.RowKit Go.Proofs.YtnjdkhnepmmfgaaDoorW.PrintWords Go.Proofs.YtnjdkhnepmmfgaaDoorW.PrintLast Go.Proofs.YtnjdkhnepmmfgaaDoorW.PrintMore Tdy Td Mg Rg Ti Tf Tid Lv Tw Sb Sbf
/-- No two states of a tidy machine speak the same language. -/
theorem made_min {wd : Nat} {rows : List (List Nat)} {accs : List Bool} {start : Nat} {pad : Nat → Nat} {bs : List Bool} {rws : List (List Nat)} (hm : Made wd rows accs start pad bs rws) : ∀ i j, i < rws.length → j < rws.length → Same wd (mach rws bs) (mach rws bs) i j → i = j := by
 obtain ⟨lp, rp, g, l, h1, h2, h3, rfl, c1, hrp, s1, k1, o1, hle⟩ := hm.is
 unfold byClass at h3
 obtain ⟨hd, m, hm2⟩ := bfs_done _ 0 [g.getD 0 0] [] l rws h3 (Nat.zero_le _) rfl (List.pairwise_singleton _ _) (fun r hr => by cases hr) (fun i hi => by cases hi)
 have hall : ∀ a ∈ l, ∃ x, x < rp.length ∧ a = g.getD x 0 := bfs_all (Q := fun a => ∃ x, x < rp.length ∧ a = g.getD x 0) (by
  rintro a ⟨x, hx, rfl⟩ c hc
  exact ⟨_, c1.step (o1.lt x hx) (List.mem_range.1 hc), rfl⟩) _ 0 _ _ l rws h3 (fun a ha => by rw [List.mem_singleton.1 ha]; exact ⟨0, hrp, rfl⟩)
 have hof : ∀ i (hi : i < l.length), ∃ y, y < rp.length ∧ l[i] = g.getD y 0 ∧ Same wd (mach rws (l.map (fun a => (lp.map (accP accs)).getD (oneOf g a) false))) (mach rp (lp.map (accP accs))) i y := by
  intro i hi
  have hds := done_same (A := ⟨fun a c => g.getD ((rp.getD (oneOf g a) []).getD c 0) 0, fun a => (lp.map (accP accs)).getD (oneOf g a) false⟩) hd hi
  obtain ⟨y, hy, e⟩ := hall _ (List.getElem_mem hi)
  refine ⟨y, hy, e, hds.trans ?_⟩
  refine Same.of (R := fun a x => ∃ y, y < rp.length ∧ x < rp.length ∧ a = g.getD y 0 ∧ Same wd (mach rp (lp.map (accP accs))) (mach rp (lp.map (accP accs))) y x) ?_ ?_ ⟨y, hy, hy, e, Same.refl _ _ _⟩
  ·rintro a x ⟨y, hy, hx, rfl, hs⟩
   exact (((k1.iff_ _ _ (o1.lt y hy) hy).1 (o1.eq y hy)).trans hs).acc
  ·rintro a x ⟨y, hy, hx, rfl, hs⟩ c hc
   have hsx := ((k1.iff_ _ _ (o1.lt y hy) hy).1 (o1.eq y hy)).trans hs
   exact ⟨_, c1.step (o1.lt y hy) hc, c1.step hx hc, rfl, hsx.step hc⟩
 intro i j hi hj hs
 have hi' : i < l.length := by rw [← hd.len]; exact hi
 have hj' : j < l.length := by rw [← hd.len]; exact hj
 obtain ⟨x, hx, ex, sx⟩ := hof i hi'
 obtain ⟨y, hy, ey, sy⟩ := hof j hj'
 have hg : l[i] = l[j] := by rw [ex, ey]; exact (k1.iff_ _ _ hx hy).2 ((sx.symm.trans hs).trans sy)
 have hp := List.pairwise_iff_getElem.1 hd.apart
 rcases Nat.lt_trichotomy i j with h | h | h
 ·exact absurd hg (hp i j hi' hj' h)
 ·exact h
 ·exact absurd hg.symm (hp j i hj' hi' h)
section
variable {lv : Nat → Bool} {P : Nat → Prop}
theorem pairF_all {r : List Nat} {a b : Nat} (ha : a ≤ 2) (hb : b ≤ 2) (hr : ∀ a b, a < 2 → b < 2 → P (r.getD (a + 3 * b) 0)) {s s' : St} (hs : ∀ x ∈ s.1, P x) (h : pairF lv r a b s = some s') : ∀ x ∈ s'.1, P x := by
 unfold pairF at h
 split at h
 ·cases h; exact hs
 ·split at h
  ·cases h; exact hs
  ·split at h
   ·cases h
   ·rename_i h1 h2 h3
    split at h
    ·cases h; exact hs
    ·cases h
     intro x hx
     rcases List.mem_append.1 hx with hx | hx
     ·exact hs x hx
     ·rw [List.mem_singleton.1 hx]
      exact hr a b (by omega) (by omega)
theorem runB_all {r : List Nat} {a : Nat} (ha : a ≤ 2) (hr : ∀ a b, a < 2 → b < 2 → P (r.getD (a + 3 * b) 0)) : ∀ (bs : List Nat) (s s' : St), (∀ b ∈ bs, b ≤ 2) → (∀ x ∈ s.1, P x) → runB lv r a bs s = some s' → ∀ x ∈ s'.1, P x
 | [], s, s', _, h, hp => by cases hp; exact h
 | b :: bs, s, s', hb, h, hp => by
  unfold runB at hp
  obtain ⟨s1, h1, h2⟩ := Option.bind_eq_some_iff.1 hp
  exact runB_all ha hr bs s1 s' (fun x hx => hb x (List.mem_cons_of_mem _ hx)) (pairF_all ha (hb b List.mem_cons_self) hr h h1) h2
theorem runA_all {r : List Nat} (hr : ∀ a b, a < 2 → b < 2 → P (r.getD (a + 3 * b) 0)) : ∀ (l : List Nat) (s s' : St), (∀ a ∈ l, a ≤ 2) → (∀ x ∈ s.1, P x) → runA lv r l s = some s' → ∀ x ∈ s'.1, P x
 | [], s, s', _, h, hp => by cases hp; exact h
 | a :: l, s, s', ha, h, hp => by
  unfold runA at hp
  obtain ⟨s1, h1, h2⟩ := Option.bind_eq_some_iff.1 hp
  exact runA_all hr l s1 s' (fun x hx => ha x (List.mem_cons_of_mem _ hx)) (runB_all (ha a List.mem_cons_self) hr _ s s1 (by decide) h h1) h2
theorem scr_all {rows : List (List Nat)} {accs : List Bool} (hcl : Closed 8 rows accs) (hP : ∀ q, P q → q < rows.length ∧ ∀ a b, a < 2 → b < 2 → P ((rows.getD q []).getD (a + 3 * b) 0)) : ∀ (f i : Nat) (li : List Nat) (nx : List (List Int)) (ot : List (List ByteArray)) (s : Sc), (∀ q ∈ li, P q) → li.Nodup → scr lv rows f i li nx ot = some (some s) → (∀ q ∈ s.1, P q) ∧ s.1.Nodup
 | 0, i, li, nx, ot, s, _, _, h => by simp [scr] at h
 | f + 1, i, li, nx, ot, s, hl, hd, h => by
  unfold scr at h
  by_cases hi : i < li.length
  ·rw [dif_pos hi] at h
   have hq := hP _ (hl _ (List.getElem_mem hi))
   obtain ⟨h8, hrl⟩ := row_at hcl hq.1
   cases hr : rowT lv (rows.getD li[i] []) li with
   | none => rw [hr] at h; cases h
   | some s1 =>
    rw [hr] at h
    have hv : Inv rows.length li s1 := runA_inv h8 hrl _ _ s1 (by decide) (Inv.start (fun q hq => (hP q (hl q hq)).1) hd) hr
    exact scr_all hcl hP f (i + 1) s1.1 _ _ s (runA_all hq.2 _ _ s1 (by decide) hl hr) hv.nd h
  ·rw [dif_neg hi] at h
   cases h
   exact ⟨hl, hd⟩
end
theorem pad_letters : ∀ a b, a < 2 → b < 2 → padT 2 (a + 3 * b) = 0 ∧ okC (padT 2) 0 (a + 3 * b) = true := by
 intro a b ha hb
 have : (a = 0 ∨ a = 1) ∧ (b = 0 ∨ b = 1) := by omega
 rcases this with ⟨rfl | rfl, rfl | rfl⟩ <;> exact ⟨by decide +kernel, by decide +kernel⟩
/-- What the states of a scribe stand for. -/
def Stands (rows : List (List Nat)) (accs : List Bool) (bs : List Bool) (rws : List (List Nat)) (x : Nat) : Prop := x < rws.length ∧ ∃ q, q < rows.length ∧ Same 8 (mach rws bs) (right (mach rows accs) (okC (padT 2)) (padT 2)) x (some (q, 0))
theorem stands_step {rows : List (List Nat)} {accs : List Bool} {bs : List Bool} {rws : List (List Nat)} (hcl : Closed 8 rows accs) (hc2 : Closed 8 rws bs) {x : Nat} (h : Stands rows accs bs rws x) : x < rws.length ∧ ∀ a b, a < 2 → b < 2 → Stands rows accs bs rws ((rws.getD x []).getD (a + 3 * b) 0) := by
 obtain ⟨hx, q, hq, hs⟩ := h
 refine ⟨hx, fun a b ha hb => ?_⟩
 have hc : a + 3 * b < 8 := by omega
 have h1 := hs.step hc
 obtain ⟨e1, e2⟩ := pad_letters a b ha hb
 refine ⟨hc2.step hx hc, (mach rows accs).step q (a + 3 * b), hcl.step hq hc, ?_⟩
 have e : (right (mach rows accs) (okC (padT 2)) (padT 2)).step (some (q, 0)) (a + 3 * b) = some ((mach rows accs).step q (a + 3 * b), 0) := by
  show (if okC (padT 2) 0 (a + 3 * b) then some ((mach rows accs).step q (a + 3 * b), padT 2 (a + 3 * b)) else none) = _
  rw [if_pos e2, e1]
 rw [e] at h1
 exact h1
theorem stands_card {rows : List (List Nat)} {accs : List Bool} {bs : List Bool} {rws : List (List Nat)} (hmin : ∀ i j, i < rws.length → j < rws.length → Same 8 (mach rws bs) (mach rws bs) i j → i = j) {l : List Nat} (hl : ∀ x ∈ l, Stands rows accs bs rws x) (hd : l.Nodup) : l.length ≤ rows.length := by
 have hch : ∀ x, ∃ q, x ∈ l → q < rows.length ∧ Same 8 (mach rws bs) (right (mach rows accs) (okC (padT 2)) (padT 2)) x (some (q, 0)) := fun x => by
  by_cases hx : x ∈ l
  ·obtain ⟨q, hq⟩ := (hl x hx).2
   exact ⟨q, fun _ => hq⟩
  ·exact ⟨0, fun h => absurd h hx⟩
 let f := fun x => Classical.choose (hch x)
 have hf : ∀ x ∈ l, f x < rows.length ∧ Same 8 (mach rws bs) (right (mach rows accs) (okC (padT 2)) (padT 2)) x (some (f x, 0)) := fun x hx => Classical.choose_spec (hch x) hx
 have hnd : (l.map f).Nodup := by
  refine List.pairwise_map.2 (List.Pairwise.imp_of_mem (fun {a b} ha hb hab e => hab ?_) hd)
  obtain ⟨_, sa⟩ := hf a ha
  obtain ⟨_, sb⟩ := hf b hb
  rw [e] at sa
  exact hmin a b (hl a ha).1 (hl b hb).1 (sa.trans sb.symm)
 have := nodup_le (m := List.range rows.length) hnd (fun y hy => by
  obtain ⟨x, hx, rfl⟩ := List.mem_map.1 hy
  exact List.mem_range.2 (hf x hx).1)
 simpa using this
/-- The scribe of a tidy relation of two tapes has at most as many states as the relation. -/
theorem scribe_small {s : Nat} {accs : List Bool} {rows : List (List Nat)} (hs : s < rows.length) (hcl : Closed 8 rows accs) : (scribeF (tidL 8 rows accs s (padT 2)).2 (tidL 8 rows accs s (padT 2)).1 0).1.length ≤ rows.length := by
 have hm := Ti.made hcl hs (pad := padT 2) (fun c hc => Nat.lt_of_lt_of_le (fin_pad 2 (by decide) c (by omega)) (by decide))
 obtain ⟨g1, g2, g3, g4⟩ := made_good hm
 have hmin := made_min hm
 generalize (tidL 8 rows accs s (padT 2)).2 = rws at *
 generalize (tidL 8 rows accs s (padT 2)).1 = bs at *
 unfold scribeF
 split
 ·show 1 ≤ rows.length
  omega
 ·obtain ⟨res, hres⟩ := scr_some g1 (live rws bs) (rws.length + 1) 0 [0] [] [] (by simp) (fun q hq => by rw [List.mem_singleton.1 hq]; exact g2) (by simp) (by omega)
  rw [hres]
  cases res with
  | none => exact Nat.zero_le _
  | some sc =>
   obtain ⟨h1, h2⟩ := scr_all (P := Stands rows accs bs rws) g1 (fun q hq => stands_step hcl g1 hq) _ _ _ _ _ sc (fun q hq => by rw [List.mem_singleton.1 hq]; exact ⟨g2, s, hs, g4⟩) (by simp) hres
   show (sc.1.map (acF bs)).length ≤ rows.length
   rw [List.length_map]
   exact stands_card hmin h1 h2
end Go.Proofs.YtnjdkhnepmmfgaaDoor.Scn
namespace Go.Proofs.YtnjdkhnepmmfgaaDoor.Sco
set_option linter.unusedVariables false
set_option linter.unusedSimpArgs false
open Go.RowKit Go.Proofs.YtnjdkhnepmmfgaaDoorW.PrintWords Go.Proofs.YtnjdkhnepmmfgaaDoorW.PrintLast Go.Proofs.YtnjdkhnepmmfgaaDoorW.PrintMore Kp Tdy Mg Tid Tf Ti Sb Sbf PT3 PureRel Lr Il
structure SRes where
 a : List Bool
 n : List (List Int)
 o : List (List ByteArray)
 c : Int
def badS (c : Int) : SRes := ⟨[], [], [], c⟩
/-- A scribe's rows, of its own. -/
structure SI (w : World) (base : Nat) (ok : Nat → Prop) (A1 : Option Addr) (c1 : Nat) (a : List Bool) (A2 : Option Addr) (c2 : Nat) (n : List (List Int)) (A3 : Option Addr) (c3 : Nat) (o : List (List ByteArray)) : Prop where
 mk ::
 r1 : Kd.R Kd.bool 4 w base ok (.slice A1 a.length c1) a
 r2 : Kd.R Pair 78 w base ok (.slice A2 n.length c2) n
 r3 : Kd.R Text2 79 w base ok (.slice A3 o.length c3) o
section
variable {w W : World} {base : Nat} {ok ok' : Nat → Prop} {A1 A2 A3 : Option Addr} {c1 c2 c3 : Nat} {a : List Bool} {n : List (List Int)} {o : List (List ByteArray)}
theorem SI.step (h : SI w base ok A1 c1 a A2 c2 n A3 c3 o) (hm : ∀ k, ok k → k < w.heap.size → W.heap[k]? = w.heap[k]?) : SI W base ok A1 c1 a A2 c2 n A3 c3 o := ⟨Kd.R_step h.r1 hm, Kd.R_step h.r2 hm, Kd.R_step h.r3 hm⟩
theorem SI.below (h : SI w base ok A1 c1 a A2 c2 n A3 c3 o) (hb : Below w.heap.size w W) : SI W base ok A1 c1 a A2 c2 n A3 c3 o := h.step (fun k _ hk => hb.block k hk)
theorem SI.mono (h : SI w base ok A1 c1 a A2 c2 n A3 c3 o) (hk : ∀ k, ok k → ok' k) : SI w base ok' A1 c1 a A2 c2 n A3 c3 o := ⟨Kd.R_mono h.r1 hk, Kd.R_mono h.r2 hk, Kd.R_mono h.r3 hk⟩
theorem SI.lower {base' : Nat} (h : SI w base ok A1 c1 a A2 c2 n A3 c3 o) (hl : base' ≤ base) : SI w base' ok A1 c1 a A2 c2 n A3 c3 o := ⟨Kd.R_lower h.r1 hl, Kd.R_lower h.r2 hl, Kd.R_lower h.r3 hl⟩
theorem SI.bound (h : SI w base ok A1 c1 a A2 c2 n A3 c3 o) : SI w base (fun k => ok k ∧ base ≤ k ∧ k < w.heap.size) A1 c1 a A2 c2 n A3 c3 o :=
 ⟨Kd.R_mono (Kd.R_bound h.r1) (fun k hk => ⟨hk.1, hk.2.1, hk.2.2.1⟩), Kd.R_mono (Kd.R_bound h.r2) (fun k hk => ⟨hk.1, hk.2.1, hk.2.2.1⟩), Kd.R_mono (Kd.R_bound h.r3) (fun k hk => ⟨hk.1, hk.2.1, hk.2.2.1⟩)⟩
theorem SI.set {g : Nat} {cells : Array Value} (h : SI w base ok A1 c1 a A2 c2 n A3 c3 o) (hb : w.heap[g]? = some (.cells cells 37 (0, 0))) (i : Nat) (v : Value) : SI (w.setCell ⟨g, i, none⟩ v) base ok A1 c1 a A2 c2 n A3 c3 o :=
 ⟨Kd.R_set h.r1 hb (by decide) i v, Kd.R_set h.r2 hb (by decide) i v, Kd.R_set h.r3 hb (by decide) i v⟩
end
/-- A scribe of its own, and a code, are returned. -/
def GivesS (R : SRes) (w0 : World) (e : Ending) (w' : World) : Prop := ∃ A1 c1 A2 c2 A3 c3, e = .returned (.tuple #[.agg #[.slice A1 R.a.length c1, .slice A2 R.n.length c2, .slice A3 R.o.length c3], .int .i64 R.c]) ∧ SI w' w0.heap.size (fun _ => True) A1 c1 R.a A2 c2 R.n A3 c3 R.o ∧ Below w0.heap.size w0 w'
theorem givesS_bad {c : Int} {w0 w' : World} {e : Ending} (he : e = .returned (.tuple #[.agg #[.slice none 0 0, .slice none 0 0, .slice none 0 0], .int .i64 c])) (hb : Below w0.heap.size w0 w') : GivesS (badS c) w0 e w' :=
 ⟨none, 0, none, 0, none, 0, he, ⟨Kd.R_nil _ _ _ _ _, Kd.R_nil _ _ _ _ _, Kd.R_nil _ _ _ _ _⟩, hb⟩
/-- What ScribeOf gives. -/
def scoR (t s : Int) (a : List Bool) (b : List (List Int)) : SRes := if twoC t s a b = 0 then (if (scrR t s a b).2.2.2 = true then ⟨(scrR t s a b).1, (scrR t s a b).2.1, (scrR t s a b).2.2.1, 0⟩ else badS 4) else badS (twoC t s a b)
theorem scrR_small {t s : Int} {a : List Bool} {b : List (List Int)} (h : twoC t s a b = 0) : (scrR t s a b).1.length ≤ 150 := by
 obtain ⟨hok, rfl⟩ := two_ok h
 have hk := okM_ok (ok_tidy hok)
 have e : scrR 2 s a b = scribeF (tidL 8 (b.map nats) a s.toNat (padT 2)).2 (tidL 8 (b.map nats) a s.toNat (padT 2)).1 0 := rfl
 have h1 := Scn.scribe_small (rows := b.map nats) (accs := a) hk.s1 hk.cl
 rw [← e, List.length_map] at h1
 have h2 : b.length ≤ 150 := by
  have := hk.cl.len
  rw [List.length_map] at this
  unfold okR at hok
  simp only [Bool.and_eq_true, decide_eq_true_eq] at hok
  omega
 omega
set_option maxHeartbeats 4000000 in
theorem spec_sco (t s : Int) (A2 : Option Addr) (c2 : Nat) (a : List Bool) (A3 : Option Addr) (c3 : Nat) (b : List (List Int)) (w : World) (hA : Arg w A2 c2 a A3 c3 b) (hS : Small a b) (hG : Glob w) :
  Calls Tryd.prog 13 #[.agg #[.int .i64 t, .int .i64 s, .slice A2 a.length c2, .slice A3 b.length c3]] w (GivesS (scoR t s a b) w) := by
 have hP := blk_alloc (blk_new w (.cells #[.int .i64 t, .int .i64 s, .slice A2 a.length c2, .slice A3 b.length c3] 27)) (.cells #[.slice none 0 0, .slice none 0 0, .slice none 0 0] 37)
 have hb1 : Below w.heap.size w ((w.alloc (.cells #[.int .i64 t, .int .i64 s, .slice A2 a.length c2, .slice A3 b.length c3] 27)).alloc (.cells #[.slice none 0 0, .slice none 0 0, .slice none 0 0] 37)) := below_alloc (below_alloc (Below.refl _ _) _) _
 have hZ1 : ((w.alloc (.cells #[.int .i64 t, .int .i64 s, .slice A2 a.length c2, .slice A3 b.length c3] 27)).alloc (.cells #[.slice none 0 0, .slice none 0 0, .slice none 0 0] 37)).heap[w.heap.size + 1]? = some (.cells #[.slice none 0 0, .slice none 0 0, .slice none 0 0] 37 (0, 0)) := blk_at _ _ _ (by simp)
 have hG2 := Aside0.mk hG
 clear hG
 have hb1' := hb1
 have hP0 := hP
 have hZ := hZ1
 have htwo := Aside0.mk (two_spec w.heap.size t s A2 c2 a A3 c3 b _ hP (hA.below hb1) hS)
 by_cases h0 : twoC t s a b = 0
 ·obtain ⟨hok, ht2⟩ := two_ok h0
  have hsm := scrR_small h0
  obtain ⟨R1, R2, R3, R4, hR⟩ : ∃ R1 R2 R3 R4, scrR t s a b = (R1, R2, R3, R4) := ⟨_, _, _, _, rfl⟩
  have e : scoR t s a b = if R4 = true then ⟨R1, R2, R3, 0⟩ else badS 4 := by unfold scoR; rw [if_pos h0, hR]
  rw [e]
  rw [hR] at hsm
  obtain ⟨LA, LM, htd, hsc⟩ : ∃ LA LM, Aside0 (spec_l01Tidied.f t s a b = some (t, 0, LA, LM)) ∧ Aside0 (spec_l07Scribe.f t 0 LA LM = some (R1, R2, R3, R4)) := ⟨_, _, ⟨tidF_is hok⟩, ⟨by rw [← hR]; exact scr_tid hok ht2⟩⟩
  have h0' := Aside0.mk h0
  have hle : ((150 : Int) < (R1.length : Int)) = False := eq_false (by have : R1.length ≤ 150 := hsm; omega)
  clear e h0 ht2 hR hsm
  cases R4 with
  | true =>
   rw [if_pos rfl]
   go_enter Tryd.func13, Tryd.ntmps13
   go_wp2_with (first
    | (go_at_call 38; go_loud (
      with_reducible refine htwo.out.mono ?_
      rintro e w2 ⟨he, hb2⟩
      rw [h0'.out] at he
      subst he
      have hP2 := blk_below hP0 hb2
      have hZ2 := blk_below hZ hb2
      have hB2 := below_step hb1' hb2))
    | (go_at_call 39; go_loud (
      with_reducible refine (spec_l01Tidied.calls w.heap.size t s A2 c2 a A3 c3 b _ _ _ _ _ hP2 (hA.below hB2).r2 hA.l2 (hA.below hB2).r3 hA.l3 htd.out).mono ?_
      rintro e w3 ⟨v2, v3, rfl, q2, q3, hb3⟩
      obtain ⟨B2, d2, e2⟩ := Kd.R_slice q2
      subst e2
      obtain ⟨B3, d3, e3⟩ := Kd.S_slice q3
      subst e3
      have hT := blk_new w3 (.cells #[.int .i64 t, .int .i64 0, .slice B2 LA.length d2, .slice B3 LM.length d3] 27)
      have hb3a : Below w3.heap.size w3 (w3.alloc (.cells #[.int .i64 t, .int .i64 0, .slice B2 LA.length d2, .slice B3 LM.length d3] 27)) := below_alloc (Below.refl _ _) _
      have hZ3 := blk_below (blk_below hZ2 hb3) hb3a
      have hB3 := below_step (below_step hB2 hb3) hb3a))
    | (go_at_call 40; go_loud (
      with_reducible refine (spec_l07Scribe.calls w3.heap.size t 0 B2 d2 LA B3 d3 LM _ _ _ _ _ hT (Kd.C_below (Kd.R_reads' q2).2.2 hb3a) (Kd.R_reads' q2).2.1 (Kd.C_below (Kd.S_reads' q3).2.2 hb3a) (Kd.S_reads' q3).2.1 hsc.out).mono ?_
      rintro e w4 ⟨v5, v6, v7, rfl, q5, q6, q7, hb4⟩
      have hB8 := hB3
      obtain ⟨A5, c5, e5⟩ := Kd.R_slice q5
      subst e5
      obtain ⟨A6, c6, e6⟩ := Kd.R_slice q6
      subst e6
      obtain ⟨A7, c7, e7⟩ := Kd.R_slice q7
      subst e7
      have hb4a : Below w4.heap.size w4 (w4.alloc (.cells #[.slice A5 R1.length c5, .slice A6 R2.length c6, .slice A7 R3.length c7] 37)) := below_alloc (Below.refl _ _) _
      have b0 := blk_below (blk_below hZ3 hb4) hb4a
      have hB9 := below_step (below_step hB3 hb4) hb4a
      have qS : SI (w4.alloc (.cells #[.slice A5 R1.length c5, .slice A6 R2.length c6, .slice A7 R3.length c7] 37)) _ (fun _ => True) A5 c5 R1 A6 c6 R2 A7 c7 R3 := (SI.mk q5 q6 q7).below hb4a
      have n0 := (blk_cell (blk_new w4 (.cells #[.slice A5 R1.length c5, .slice A6 R2.length c6, .slice A7 R3.length c7] 37)) 0).trans (rfl : _ = some (Value.slice A5 R1.length c5))
      have e0 : (w4.alloc (.cells #[.slice A5 R1.length c5, .slice A6 R2.length c6, .slice A7 R3.length c7] 37)).cell? ⟨w.heap.size + 1, 0, none⟩ = some (.slice none 0 0) := (blk_cell b0 0).trans rfl
      have f0 : (w4.alloc (.cells #[.slice A5 R1.length c5, .slice A6 R2.length c6, .slice A7 R3.length c7] 37)).frozen? ⟨w.heap.size + 1, 0, none⟩ = false := blk_frozen b0 0
      have e1 : (w4.alloc (.cells #[.slice A5 R1.length c5, .slice A6 R2.length c6, .slice A7 R3.length c7] 37)).cell? ⟨w.heap.size + 1, 1, none⟩ = some (.slice none 0 0) := (blk_cell b0 1).trans rfl
      have f1 : (w4.alloc (.cells #[.slice A5 R1.length c5, .slice A6 R2.length c6, .slice A7 R3.length c7] 37)).frozen? ⟨w.heap.size + 1, 1, none⟩ = false := blk_frozen b0 1
      have e2 : (w4.alloc (.cells #[.slice A5 R1.length c5, .slice A6 R2.length c6, .slice A7 R3.length c7] 37)).cell? ⟨w.heap.size + 1, 2, none⟩ = some (.slice none 0 0) := (blk_cell b0 2).trans rfl
      have f2 : (w4.alloc (.cells #[.slice A5 R1.length c5, .slice A6 R2.length c6, .slice A7 R3.length c7] 37)).frozen? ⟨w.heap.size + 1, 2, none⟩ = false := blk_frozen b0 2
      clear q2 q3)))
   have b1 := blk_put b0 0 (.slice A5 R1.length c5) rfl
   have b2 := blk_put b1 1 (.slice A6 R2.length c6) rfl
   have b3 := blk_put b2 2 (.slice A7 R3.length c7) rfl
   refine bodyPost_ret (results_ct rfl _ _ (w.heap.size + 1) 37 #[.slice A5 R1.length c5, .slice A6 R2.length c6, .slice A7 R3.length c7] (0, 0) _ rfl b3 Tryd.underlying37 rfl (by kernel_rfl)) rfl ⟨A5, c5, A6, c6, A7, c7, rfl, ?_, ?_⟩
   ·exact (((qS.set b0 0 _).set b1 1 _).set b2 2 _).lower (Below.size hB8)
   ·exact ((hB9.setCell (by simp) _).setCell (by simp) _).setCell (by simp) _
  | false =>
   rw [if_neg (by decide)]
   go_enter Tryd.func13, Tryd.ntmps13
   go_wp2_with (first
    | (go_at_call 38; go_loud (
      with_reducible refine htwo.out.mono ?_
      rintro e w2 ⟨he, hb2⟩
      rw [h0'.out] at he
      subst he
      have hP2 := blk_below hP0 hb2
      have hZ2 := blk_below hZ hb2
      have hB2 := below_step hb1' hb2))
    | (go_at_call 39; go_loud (
      with_reducible refine (spec_l01Tidied.calls w.heap.size t s A2 c2 a A3 c3 b _ _ _ _ _ hP2 (hA.below hB2).r2 hA.l2 (hA.below hB2).r3 hA.l3 htd.out).mono ?_
      rintro e w3 ⟨v2, v3, rfl, q2, q3, hb3⟩
      obtain ⟨B2, d2, e2⟩ := Kd.R_slice q2
      subst e2
      obtain ⟨B3, d3, e3⟩ := Kd.S_slice q3
      subst e3
      have hT := blk_new w3 (.cells #[.int .i64 t, .int .i64 0, .slice B2 LA.length d2, .slice B3 LM.length d3] 27)
      have hb3a : Below w3.heap.size w3 (w3.alloc (.cells #[.int .i64 t, .int .i64 0, .slice B2 LA.length d2, .slice B3 LM.length d3] 27)) := below_alloc (Below.refl _ _) _
      have hZ3 := blk_below (blk_below hZ2 hb3) hb3a
      have hB3 := below_step (below_step hB2 hb3) hb3a))
    | (go_at_call 40; go_loud (
      with_reducible refine (spec_l07Scribe.calls w3.heap.size t 0 B2 d2 LA B3 d3 LM _ _ _ _ _ hT (Kd.C_below (Kd.R_reads' q2).2.2 hb3a) (Kd.R_reads' q2).2.1 (Kd.C_below (Kd.S_reads' q3).2.2 hb3a) (Kd.S_reads' q3).2.1 hsc.out).mono ?_
      rintro e w4 ⟨v5, v6, v7, rfl, q5, q6, q7, hb4⟩
      have hB8 := hB3
      obtain ⟨A5, c5, e5⟩ := Kd.R_slice q5
      subst e5
      obtain ⟨A6, c6, e6⟩ := Kd.R_slice q6
      subst e6
      obtain ⟨A7, c7, e7⟩ := Kd.R_slice q7
      subst e7
      have hb4a : Below w4.heap.size w4 (w4.alloc (.cells #[.slice A5 R1.length c5, .slice A6 R2.length c6, .slice A7 R3.length c7] 37)) := below_alloc (Below.refl _ _) _
      have b0 := blk_below (blk_below hZ3 hb4) hb4a
      have hB9 := below_step (below_step hB3 hb4) hb4a
      have qS : SI (w4.alloc (.cells #[.slice A5 R1.length c5, .slice A6 R2.length c6, .slice A7 R3.length c7] 37)) _ (fun _ => True) A5 c5 R1 A6 c6 R2 A7 c7 R3 := (SI.mk q5 q6 q7).below hb4a
      have n0 := (blk_cell (blk_new w4 (.cells #[.slice A5 R1.length c5, .slice A6 R2.length c6, .slice A7 R3.length c7] 37)) 0).trans (rfl : _ = some (Value.slice A5 R1.length c5))
      have e0 : (w4.alloc (.cells #[.slice A5 R1.length c5, .slice A6 R2.length c6, .slice A7 R3.length c7] 37)).cell? ⟨w.heap.size + 1, 0, none⟩ = some (.slice none 0 0) := (blk_cell b0 0).trans rfl
      have f0 : (w4.alloc (.cells #[.slice A5 R1.length c5, .slice A6 R2.length c6, .slice A7 R3.length c7] 37)).frozen? ⟨w.heap.size + 1, 0, none⟩ = false := blk_frozen b0 0
      have e1 : (w4.alloc (.cells #[.slice A5 R1.length c5, .slice A6 R2.length c6, .slice A7 R3.length c7] 37)).cell? ⟨w.heap.size + 1, 1, none⟩ = some (.slice none 0 0) := (blk_cell b0 1).trans rfl
      have f1 : (w4.alloc (.cells #[.slice A5 R1.length c5, .slice A6 R2.length c6, .slice A7 R3.length c7] 37)).frozen? ⟨w.heap.size + 1, 1, none⟩ = false := blk_frozen b0 1
      have e2 : (w4.alloc (.cells #[.slice A5 R1.length c5, .slice A6 R2.length c6, .slice A7 R3.length c7] 37)).cell? ⟨w.heap.size + 1, 2, none⟩ = some (.slice none 0 0) := (blk_cell b0 2).trans rfl
      have f2 : (w4.alloc (.cells #[.slice A5 R1.length c5, .slice A6 R2.length c6, .slice A7 R3.length c7] 37)).frozen? ⟨w.heap.size + 1, 2, none⟩ = false := blk_frozen b0 2
      clear q2 q3)))
   have b1 := blk_put b0 0 (.slice none 0 0) rfl
   have b2 := blk_put b1 1 (.slice none 0 0) rfl
   have b3 := blk_put b2 2 (.slice none 0 0) rfl
   refine bodyPost_ret (results_ct rfl _ _ (w.heap.size + 1) 37 #[.slice none 0 0, .slice none 0 0, .slice none 0 0] (0, 0) _ rfl b3 Tryd.underlying37 rfl (by kernel_rfl)) rfl (givesS_bad rfl ?_)
   exact ((hB9.setCell (by simp) _).setCell (by simp) _).setCell (by simp) _
 ·have e : scoR t s a b = badS (twoC t s a b) := if_neg h0
  rw [e]
  have x1 : (twoC t s a b == 0) = false := beq_eq_false_iff_ne.mpr h0
  have x2 : (twoC t s a b != 0) = true := bne_iff_ne.mpr h0
  have x3 : (twoC t s a b = 0) = False := eq_false h0
  clear e h0
  go_enter Tryd.func13, Tryd.ntmps13
  go_wp2_with (go_at_call 38; go_loud (
     with_reducible refine htwo.out.mono ?_
     rintro e w2 ⟨rfl, hb2⟩
     have b0 := blk_below hZ hb2
     have hB9 := below_step hb1' hb2
     have e0 : w2.cell? ⟨w.heap.size + 1, 0, none⟩ = some (.slice none 0 0) := (blk_cell b0 0).trans rfl
     have f0 : w2.frozen? ⟨w.heap.size + 1, 0, none⟩ = false := blk_frozen b0 0
     have e1 : w2.cell? ⟨w.heap.size + 1, 1, none⟩ = some (.slice none 0 0) := (blk_cell b0 1).trans rfl
     have f1 : w2.frozen? ⟨w.heap.size + 1, 1, none⟩ = false := blk_frozen b0 1
     have e2 : w2.cell? ⟨w.heap.size + 1, 2, none⟩ = some (.slice none 0 0) := (blk_cell b0 2).trans rfl
     have f2 : w2.frozen? ⟨w.heap.size + 1, 2, none⟩ = false := blk_frozen b0 2
     ))
  have b1 := blk_put b0 0 (.slice none 0 0) rfl
  have b2 := blk_put b1 1 (.slice none 0 0) rfl
  have b3 := blk_put b2 2 (.slice none 0 0) rfl
  refine bodyPost_ret (results_ct rfl _ _ (w.heap.size + 1) 37 #[.slice none 0 0, .slice none 0 0, .slice none 0 0] (0, 0) _ rfl b3 Tryd.underlying37 rfl (by kernel_rfl)) rfl (givesS_bad rfl ?_)
  exact ((hB9.setCell (by simp) _).setCell (by simp) _).setCell (by simp) _
set_option maxHeartbeats 4000000 in
theorem impl_sco (t s : Int) (A2 : Option Addr) (c2 : Nat) (a : List Bool) (A3 : Option Addr) (c3 : Nat) (b : List (List Int)) (w : World) (hA : Arg w A2 c2 a A3 c3 b) (hS : Small a b) (hG : Glob w) :
  Calls Tryd.prog 14 #[.agg #[.int .i64 t, .int .i64 s, .slice A2 a.length c2, .slice A3 b.length c3]] w (GivesS (scoR t s a b) w) := by
 have hP := blk_alloc (blk_new w (.cells #[.int .i64 t, .int .i64 s, .slice A2 a.length c2, .slice A3 b.length c3] 27)) (.cells #[.slice none 0 0, .slice none 0 0, .slice none 0 0] 37)
 have hb1 : Below w.heap.size w ((w.alloc (.cells #[.int .i64 t, .int .i64 s, .slice A2 a.length c2, .slice A3 b.length c3] 27)).alloc (.cells #[.slice none 0 0, .slice none 0 0, .slice none 0 0] 37)) := below_alloc (below_alloc (Below.refl _ _) _) _
 have hZ1 : ((w.alloc (.cells #[.int .i64 t, .int .i64 s, .slice A2 a.length c2, .slice A3 b.length c3] 27)).alloc (.cells #[.slice none 0 0, .slice none 0 0, .slice none 0 0] 37)).heap[w.heap.size + 1]? = some (.cells #[.slice none 0 0, .slice none 0 0, .slice none 0 0] 37 (0, 0)) := blk_at _ _ _ (by simp)
 have hG2 := Aside0.mk hG
 clear hG
 have hb1' : Below w.heap.size w (((w.alloc (.cells #[.int .i64 t, .int .i64 s, .slice A2 a.length c2, .slice A3 b.length c3] 27)).alloc (.cells #[.slice none 0 0, .slice none 0 0, .slice none 0 0] 37)).alloc (.cells #[.int .i64 t, .int .i64 s, .slice A2 a.length c2, .slice A3 b.length c3] 27)) := below_alloc hb1 _
 have hP1 : (((w.alloc (.cells #[.int .i64 t, .int .i64 s, .slice A2 a.length c2, .slice A3 b.length c3] 27)).alloc (.cells #[.slice none 0 0, .slice none 0 0, .slice none 0 0] 37)).alloc (.cells #[.int .i64 t, .int .i64 s, .slice A2 a.length c2, .slice A3 b.length c3] 27)).heap[w.heap.size + 2]? = some (.cells #[.int .i64 t, .int .i64 s, .slice A2 a.length c2, .slice A3 b.length c3] 27 (0, 0)) := blk_at _ _ _ (by simp)
 have hP0 : (((w.alloc (.cells #[.int .i64 t, .int .i64 s, .slice A2 a.length c2, .slice A3 b.length c3] 27)).alloc (.cells #[.slice none 0 0, .slice none 0 0, .slice none 0 0] 37)).alloc (.cells #[.int .i64 t, .int .i64 s, .slice A2 a.length c2, .slice A3 b.length c3] 27)).heap[w.heap.size]? = some (.cells #[.int .i64 t, .int .i64 s, .slice A2 a.length c2, .slice A3 b.length c3] 27 (0, 0)) := blk_alloc hP _
 have hZ : (((w.alloc (.cells #[.int .i64 t, .int .i64 s, .slice A2 a.length c2, .slice A3 b.length c3] 27)).alloc (.cells #[.slice none 0 0, .slice none 0 0, .slice none 0 0] 37)).alloc (.cells #[.int .i64 t, .int .i64 s, .slice A2 a.length c2, .slice A3 b.length c3] 27)).heap[w.heap.size + 1]? = some (.cells #[.slice none 0 0, .slice none 0 0, .slice none 0 0] 37 (0, 0)) := blk_alloc hZ1 _
 have htwo := Aside0.mk (pairs_one (w.heap.size + 2) t s A2 c2 a A3 c3 b _ hP1 (hA.below hb1') hS)
 clear hP1
 by_cases h0 : twoC t s a b = 0
 ·obtain ⟨hok, ht2⟩ := two_ok h0
  have hsm := scrR_small h0
  obtain ⟨R1, R2, R3, R4, hR⟩ : ∃ R1 R2 R3 R4, scrR t s a b = (R1, R2, R3, R4) := ⟨_, _, _, _, rfl⟩
  have e : scoR t s a b = if R4 = true then ⟨R1, R2, R3, 0⟩ else badS 4 := by unfold scoR; rw [if_pos h0, hR]
  rw [e]
  rw [hR] at hsm
  obtain ⟨LA, LM, htd, hsc⟩ : ∃ LA LM, Aside0 (impl_tidyOf.f t s a b = some (t, 0, LA, LM)) ∧ Aside0 (impl_machine_scribe.f t 0 LA LM = some (R1, R2, R3, R4)) := ⟨_, _, ⟨tidF_is hok⟩, ⟨by rw [← hR]; exact scr_tid hok ht2⟩⟩
  have h0' := Aside0.mk h0
  have hle : ((150 : Int) < (R1.length : Int)) = False := eq_false (by have : R1.length ≤ 150 := hsm; omega)
  clear e h0 ht2 hR hsm
  cases R4 with
  | true =>
   rw [if_pos rfl]
   go_enter Tryd.func14, Tryd.ntmps14
   go_wp2_with (first
    | (go_at_call 41; go_loud (
      with_reducible refine htwo.out.mono ?_
      rintro e w2 ⟨he, hb2⟩
      rw [h0'.out] at he
      subst he
      have m0 : w2.cell? ⟨w.heap.size, 0, none⟩ = some (.int .i64 t) := (blk_cell (blk_below hP0 hb2) 0).trans rfl
      have m1 : w2.cell? ⟨w.heap.size, 1, none⟩ = some (.int .i64 s) := (blk_cell (blk_below hP0 hb2) 1).trans rfl
      have m2 : w2.cell? ⟨w.heap.size, 2, none⟩ = some (.slice A2 a.length c2) := (blk_cell (blk_below hP0 hb2) 2).trans rfl
      have m3 : w2.cell? ⟨w.heap.size, 3, none⟩ = some (.slice A3 b.length c3) := (blk_cell (blk_below hP0 hb2) 3).trans rfl
      have hP2 := blk_below hP0 hb2
      have hZ2 := blk_below hZ hb2
      have hB2 := below_step hb1' hb2))
    | (go_at_call 42; go_loud (
      with_reducible refine (impl_tidyOf.calls t s A2 c2 a A3 c3 b _ _ _ _ _ (hA.below hB2).r2 hA.l2 (hA.below hB2).r3 hA.l3 (glob_below hG2.out hB2) htd.out).mono ?_
      rintro e w3 ⟨v2, v3, rfl, q2, q3, hb3⟩
      obtain ⟨B2, d2, e2⟩ := Kd.R_slice q2
      subst e2
      obtain ⟨B3, d3, e3, hd3, hC3⟩ := Kd.N_reads q3
      subst e3
      have hZ3 := blk_below hZ2 hb3
      have hB3 := below_step hB2 hb3))
    | (go_at_call 43; go_loud (
      with_reducible refine (impl_machine_scribe.calls t 0 B2 d2 LA B3 d3 LM _ _ _ _ _ (Kd.R_reads' q2).2.2 (Kd.R_reads' q2).2.1 hC3 hd3 hsc.out).mono ?_
      rintro e w4 ⟨v5, v6, v7, rfl, q5, q6, q7, hb4⟩
      have hB8 := hB3
      obtain ⟨A5, c5, e5⟩ := Kd.R_slice q5
      subst e5
      obtain ⟨A6, c6, e6⟩ := Kd.R_slice q6
      subst e6
      obtain ⟨A7, c7, e7⟩ := Kd.R_slice q7
      subst e7
      have hb4a : Below w4.heap.size w4 (w4.alloc (.cells #[.slice A5 R1.length c5, .slice A6 R2.length c6, .slice A7 R3.length c7] 37)) := below_alloc (Below.refl _ _) _
      have b0 := blk_below (blk_below hZ3 hb4) hb4a
      have hB9 := below_step (below_step hB3 hb4) hb4a
      have qS : SI (w4.alloc (.cells #[.slice A5 R1.length c5, .slice A6 R2.length c6, .slice A7 R3.length c7] 37)) _ (fun _ => True) A5 c5 R1 A6 c6 R2 A7 c7 R3 := (SI.mk q5 q6 q7).below hb4a
      have n0 := (blk_cell (blk_new w4 (.cells #[.slice A5 R1.length c5, .slice A6 R2.length c6, .slice A7 R3.length c7] 37)) 0).trans (rfl : _ = some (Value.slice A5 R1.length c5))
      have e0 : (w4.alloc (.cells #[.slice A5 R1.length c5, .slice A6 R2.length c6, .slice A7 R3.length c7] 37)).cell? ⟨w.heap.size + 1, 0, none⟩ = some (.slice none 0 0) := (blk_cell b0 0).trans rfl
      have f0 : (w4.alloc (.cells #[.slice A5 R1.length c5, .slice A6 R2.length c6, .slice A7 R3.length c7] 37)).frozen? ⟨w.heap.size + 1, 0, none⟩ = false := blk_frozen b0 0
      have e1 : (w4.alloc (.cells #[.slice A5 R1.length c5, .slice A6 R2.length c6, .slice A7 R3.length c7] 37)).cell? ⟨w.heap.size + 1, 1, none⟩ = some (.slice none 0 0) := (blk_cell b0 1).trans rfl
      have f1 : (w4.alloc (.cells #[.slice A5 R1.length c5, .slice A6 R2.length c6, .slice A7 R3.length c7] 37)).frozen? ⟨w.heap.size + 1, 1, none⟩ = false := blk_frozen b0 1
      have e2 : (w4.alloc (.cells #[.slice A5 R1.length c5, .slice A6 R2.length c6, .slice A7 R3.length c7] 37)).cell? ⟨w.heap.size + 1, 2, none⟩ = some (.slice none 0 0) := (blk_cell b0 2).trans rfl
      have f2 : (w4.alloc (.cells #[.slice A5 R1.length c5, .slice A6 R2.length c6, .slice A7 R3.length c7] 37)).frozen? ⟨w.heap.size + 1, 2, none⟩ = false := blk_frozen b0 2
      clear q2 q3)))
   have b1 := blk_put b0 0 (.slice A5 R1.length c5) rfl
   have b2 := blk_put b1 1 (.slice A6 R2.length c6) rfl
   have b3 := blk_put b2 2 (.slice A7 R3.length c7) rfl
   refine bodyPost_ret (results_ct rfl _ _ (w.heap.size + 1) 37 #[.slice A5 R1.length c5, .slice A6 R2.length c6, .slice A7 R3.length c7] (0, 0) _ rfl b3 Tryd.underlying37 rfl (by kernel_rfl)) rfl ⟨A5, c5, A6, c6, A7, c7, rfl, ?_, ?_⟩
   ·exact (((qS.set b0 0 _).set b1 1 _).set b2 2 _).lower (Below.size hB8)
   ·exact ((hB9.setCell (by simp) _).setCell (by simp) _).setCell (by simp) _
  | false =>
   rw [if_neg (by decide)]
   go_enter Tryd.func14, Tryd.ntmps14
   go_wp2_with (first
    | (go_at_call 41; go_loud (
      with_reducible refine htwo.out.mono ?_
      rintro e w2 ⟨he, hb2⟩
      rw [h0'.out] at he
      subst he
      have m0 : w2.cell? ⟨w.heap.size, 0, none⟩ = some (.int .i64 t) := (blk_cell (blk_below hP0 hb2) 0).trans rfl
      have m1 : w2.cell? ⟨w.heap.size, 1, none⟩ = some (.int .i64 s) := (blk_cell (blk_below hP0 hb2) 1).trans rfl
      have m2 : w2.cell? ⟨w.heap.size, 2, none⟩ = some (.slice A2 a.length c2) := (blk_cell (blk_below hP0 hb2) 2).trans rfl
      have m3 : w2.cell? ⟨w.heap.size, 3, none⟩ = some (.slice A3 b.length c3) := (blk_cell (blk_below hP0 hb2) 3).trans rfl
      have hP2 := blk_below hP0 hb2
      have hZ2 := blk_below hZ hb2
      have hB2 := below_step hb1' hb2))
    | (go_at_call 42; go_loud (
      with_reducible refine (impl_tidyOf.calls t s A2 c2 a A3 c3 b _ _ _ _ _ (hA.below hB2).r2 hA.l2 (hA.below hB2).r3 hA.l3 (glob_below hG2.out hB2) htd.out).mono ?_
      rintro e w3 ⟨v2, v3, rfl, q2, q3, hb3⟩
      obtain ⟨B2, d2, e2⟩ := Kd.R_slice q2
      subst e2
      obtain ⟨B3, d3, e3, hd3, hC3⟩ := Kd.N_reads q3
      subst e3
      have hZ3 := blk_below hZ2 hb3
      have hB3 := below_step hB2 hb3))
    | (go_at_call 43; go_loud (
      with_reducible refine (impl_machine_scribe.calls t 0 B2 d2 LA B3 d3 LM _ _ _ _ _ (Kd.R_reads' q2).2.2 (Kd.R_reads' q2).2.1 hC3 hd3 hsc.out).mono ?_
      rintro e w4 ⟨v5, v6, v7, rfl, q5, q6, q7, hb4⟩
      have hB8 := hB3
      obtain ⟨A5, c5, e5⟩ := Kd.R_slice q5
      subst e5
      obtain ⟨A6, c6, e6⟩ := Kd.R_slice q6
      subst e6
      obtain ⟨A7, c7, e7⟩ := Kd.R_slice q7
      subst e7
      have hb4a : Below w4.heap.size w4 (w4.alloc (.cells #[.slice A5 R1.length c5, .slice A6 R2.length c6, .slice A7 R3.length c7] 37)) := below_alloc (Below.refl _ _) _
      have b0 := blk_below (blk_below hZ3 hb4) hb4a
      have hB9 := below_step (below_step hB3 hb4) hb4a
      have qS : SI (w4.alloc (.cells #[.slice A5 R1.length c5, .slice A6 R2.length c6, .slice A7 R3.length c7] 37)) _ (fun _ => True) A5 c5 R1 A6 c6 R2 A7 c7 R3 := (SI.mk q5 q6 q7).below hb4a
      have n0 := (blk_cell (blk_new w4 (.cells #[.slice A5 R1.length c5, .slice A6 R2.length c6, .slice A7 R3.length c7] 37)) 0).trans (rfl : _ = some (Value.slice A5 R1.length c5))
      have e0 : (w4.alloc (.cells #[.slice A5 R1.length c5, .slice A6 R2.length c6, .slice A7 R3.length c7] 37)).cell? ⟨w.heap.size + 1, 0, none⟩ = some (.slice none 0 0) := (blk_cell b0 0).trans rfl
      have f0 : (w4.alloc (.cells #[.slice A5 R1.length c5, .slice A6 R2.length c6, .slice A7 R3.length c7] 37)).frozen? ⟨w.heap.size + 1, 0, none⟩ = false := blk_frozen b0 0
      have e1 : (w4.alloc (.cells #[.slice A5 R1.length c5, .slice A6 R2.length c6, .slice A7 R3.length c7] 37)).cell? ⟨w.heap.size + 1, 1, none⟩ = some (.slice none 0 0) := (blk_cell b0 1).trans rfl
      have f1 : (w4.alloc (.cells #[.slice A5 R1.length c5, .slice A6 R2.length c6, .slice A7 R3.length c7] 37)).frozen? ⟨w.heap.size + 1, 1, none⟩ = false := blk_frozen b0 1
      have e2 : (w4.alloc (.cells #[.slice A5 R1.length c5, .slice A6 R2.length c6, .slice A7 R3.length c7] 37)).cell? ⟨w.heap.size + 1, 2, none⟩ = some (.slice none 0 0) := (blk_cell b0 2).trans rfl
      have f2 : (w4.alloc (.cells #[.slice A5 R1.length c5, .slice A6 R2.length c6, .slice A7 R3.length c7] 37)).frozen? ⟨w.heap.size + 1, 2, none⟩ = false := blk_frozen b0 2
      clear q2 q3)))
   have b1 := blk_put b0 0 (.slice none 0 0) rfl
   have b2 := blk_put b1 1 (.slice none 0 0) rfl
   have b3 := blk_put b2 2 (.slice none 0 0) rfl
   refine bodyPost_ret (results_ct rfl _ _ (w.heap.size + 1) 37 #[.slice none 0 0, .slice none 0 0, .slice none 0 0] (0, 0) _ rfl b3 Tryd.underlying37 rfl (by kernel_rfl)) rfl (givesS_bad rfl ?_)
   exact ((hB9.setCell (by simp) _).setCell (by simp) _).setCell (by simp) _
 ·have e : scoR t s a b = badS (twoC t s a b) := if_neg h0
  rw [e]
  have x1 : (twoC t s a b == 0) = false := beq_eq_false_iff_ne.mpr h0
  have x2 : (twoC t s a b != 0) = true := bne_iff_ne.mpr h0
  have x3 : (twoC t s a b = 0) = False := eq_false h0
  clear e h0
  go_enter Tryd.func14, Tryd.ntmps14
  go_wp2_with (go_at_call 41; go_loud (
     with_reducible refine htwo.out.mono ?_
     rintro e w2 ⟨rfl, hb2⟩
     have b0 := blk_below hZ hb2
     have hB9 := below_step hb1' hb2
     have e0 : w2.cell? ⟨w.heap.size + 1, 0, none⟩ = some (.slice none 0 0) := (blk_cell b0 0).trans rfl
     have f0 : w2.frozen? ⟨w.heap.size + 1, 0, none⟩ = false := blk_frozen b0 0
     have e1 : w2.cell? ⟨w.heap.size + 1, 1, none⟩ = some (.slice none 0 0) := (blk_cell b0 1).trans rfl
     have f1 : w2.frozen? ⟨w.heap.size + 1, 1, none⟩ = false := blk_frozen b0 1
     have e2 : w2.cell? ⟨w.heap.size + 1, 2, none⟩ = some (.slice none 0 0) := (blk_cell b0 2).trans rfl
     have f2 : w2.frozen? ⟨w.heap.size + 1, 2, none⟩ = false := blk_frozen b0 2
     ))
  have b1 := blk_put b0 0 (.slice none 0 0) rfl
  have b2 := blk_put b1 1 (.slice none 0 0) rfl
  have b3 := blk_put b2 2 (.slice none 0 0) rfl
  refine bodyPost_ret (results_ct rfl _ _ (w.heap.size + 1) 37 #[.slice none 0 0, .slice none 0 0, .slice none 0 0] (0, 0) _ rfl b3 Tryd.underlying37 rfl (by kernel_rfl)) rfl (givesS_bad rfl ?_)
  exact ((hB9.setCell (by simp) _).setCell (by simp) _).setCell (by simp) _
end Go.Proofs.YtnjdkhnepmmfgaaDoor.Sco
namespace Go.Proofs.YtnjdkhnepmmfgaaDoor.Eqs
set_option linter.unusedVariables false
set_option linter.unusedSimpArgs false
open Go Go.RowKit Go.Proofs.YtnjdkhnepmmfgaaDoorW.PrintWords Go.Proofs.YtnjdkhnepmmfgaaDoorW.PrintLast Go.Proofs.YtnjdkhnepmmfgaaDoorW.PrintMore Kp Mg Sb PT3 Go.Proofs.YtnjdkhnepmmfgaaDoor.Pure PureRel Lr Sco Rt
theorem at_A2 {α : Type} {enc : α → Value} {h1 : ∀ x, (enc x).oneCell' = true} {hs : 0 < (Kd.scalar enc h1).sz} {w : World} {A : Option Addr} {n : Nat} {xs : List (List α)} (z : α) (h : Kd.C (Kd.arr 2 (Kd.scalar enc h1) hs) w A n xs) (i : Nat) (hi : i < xs.length) (hn : xs.length = n) : ∃ ad, A = some ad ∧ w.cell? (ad.add (i * 2)) = some (enc ((xs.getD i []).getD 0 z)) ∧ w.cell? ⟨(ad.add (i * 2)).block, (ad.add (i * 2)).off + 1, none⟩ = some (enc ((xs.getD i []).getD 1 z)) := by
 obtain ⟨ad, c, e, _, hK, hc0⟩ := Kd.C_get h ([] : List α) (i : Int) (by omega) (by omega)
 rw [Int.toNat_natCast] at hK hc0
 obtain ⟨hl, hc⟩ := Kd.arr_cells hK
 have hc1 : ∀ j u, c[j]? = some u → w.cell? (ad.add (i * 2 + j)) = some u := hc0
 obtain ⟨x, y, hx⟩ : ∃ x y, xs.getD i [] = [x, y] := by
  match xs.getD i [], hl with
  | [x, y], _ => exact ⟨x, y, rfl⟩
 rw [hx] at hc ⊢
 have hc2 : c = [enc x, enc y] := hc
 subst hc2
 exact ⟨ad, e, hc1 0 _ rfl, by rw [← add_field _ _ 1 (by omega)]; exact hc1 1 _ rfl⟩
set_option maxHeartbeats 2000000 in
theorem eqI (x y : Int) (w : World) : Calls Tryd.prog 87 #[.agg #[.int .i64 x, .int .i64 y], .agg #[.int .i64 x, .int .i64 y]] w fun e w' => e = .returned (.bool true) ∧ Below w.heap.size w w' := by
 have P0 := blk_alloc (blk_new w (.cells #[.int .i64 x, .int .i64 y] 78)) (.cells #[.int .i64 x, .int .i64 y] 78)
 have P1 : ((w.alloc (.cells #[.int .i64 x, .int .i64 y] 78)).alloc (.cells #[.int .i64 x, .int .i64 y] 78)).heap[w.heap.size + 1]? = some (.cells #[.int .i64 x, .int .i64 y] 78 (0, 0)) := blk_at _ _ _ (by simp)
 have hb1 : Below w.heap.size w ((w.alloc (.cells #[.int .i64 x, .int .i64 y] 78)).alloc (.cells #[.int .i64 x, .int .i64 y] 78)) := below_alloc (below_alloc (Below.refl _ _) _) _
 have zx : (x != x) = false := bne_self_eq_false x
 have zy : (y != y) = false := bne_self_eq_false y
 go_enter Tryd.func87, Tryd.ntmps87
 go_wp2_with fail
 go_loopg [5] 3 (fun kq v5 W => (v5 = .int .i64 0 ∧ Aside0 (kq = 3) ∧ Aside0 (Below ((w.alloc (.cells #[.int .i64 x, .int .i64 y] 78)).alloc (.cells #[.int .i64 x, .int .i64 y] 78)).heap.size ((w.alloc (.cells #[.int .i64 x, .int .i64 y] 78)).alloc (.cells #[.int .i64 x, .int .i64 y] 78)) W)) ∨ (v5 = .int .i64 1 ∧ Aside0 (kq = 2) ∧ Aside0 (Below ((w.alloc (.cells #[.int .i64 x, .int .i64 y] 78)).alloc (.cells #[.int .i64 x, .int .i64 y] 78)).heap.size ((w.alloc (.cells #[.int .i64 x, .int .i64 y] 78)).alloc (.cells #[.int .i64 x, .int .i64 y] 78)) W)) ∨ (v5 = .int .i64 2 ∧ Aside0 (kq = 1) ∧ Aside0 (Below ((w.alloc (.cells #[.int .i64 x, .int .i64 y] 78)).alloc (.cells #[.int .i64 x, .int .i64 y] 78)).heap.size ((w.alloc (.cells #[.int .i64 x, .int .i64 y] 78)).alloc (.cells #[.int .i64 x, .int .i64 y] 78)) W)))
 case atStart => exact .inl ⟨rfl, ⟨rfl⟩, ⟨Below.refl _ _⟩⟩
 case round =>
  have hw1 : wrap64 (0 + 1) = 1 := by unfold wrap64; decide
  have hw2 : wrap64 (1 + 1) = 2 := by unfold wrap64; decide
  rcases hrel with ⟨rfl, hk, hB⟩ | ⟨rfl, hk, hB⟩ | ⟨rfl, hk, hB⟩
  ·have m0 : wr.cell? ⟨w.heap.size, 0, none⟩ = some (.int .i64 x) := (blk_cell (blk_below P0 hB.out) 0).trans rfl
   have m1 : wr.cell? ⟨w.heap.size + 1, 0, none⟩ = some (.int .i64 x) := (blk_cell (blk_below P1 hB.out) 0).trans rfl
   go_wp2_with fail
   go_quiet (fail)
   go_wp2_with fail
   go_roundg 2
   case measure => have := hk.out; omega
   case rel => exact .inr (.inl ⟨(by first | rfl | go_num), ⟨rfl⟩, ⟨by repeat (first | exact hB.out | apply pw_below_drewN | apply below_drew1)⟩⟩)
  ·have m0 : wr.cell? ⟨w.heap.size, 1, none⟩ = some (.int .i64 y) := (blk_cell (blk_below P0 hB.out) 1).trans rfl
   have m1 : wr.cell? ⟨w.heap.size + 1, 1, none⟩ = some (.int .i64 y) := (blk_cell (blk_below P1 hB.out) 1).trans rfl
   go_wp2_with fail
   go_quiet (fail)
   go_wp2_with fail
   go_roundg 1
   case measure => have := hk.out; omega
   case rel => exact .inr (.inr ⟨(by first | rfl | go_num), ⟨rfl⟩, ⟨by repeat (first | exact hB.out | apply pw_below_drewN | apply below_drew1)⟩⟩)
  ·go_wp2_with fail
   go_ret
   exact ⟨rfl, below_step hb1 hB.out⟩
set_option maxHeartbeats 4000000 in
set_option maxRecDepth 100000 in
theorem eqIS (xs : List (List Int)) (A : Option Addr) (c : Nat) (B : Option Addr) (d : Nat) (w : World) (hA : Kd.C Pair w A xs.length xs) (hB : Kd.C Pair w B xs.length xs) (hl : xs.length ≤ 2000000) :
  Calls Tryd.prog 44 #[.slice A xs.length c, .slice B xs.length d] w fun e w' => e = .returned (.bool true) ∧ Below w.heap.size w w' := by
 have hAq := Aside0.mk hA
 have hBq := Aside0.mk hB
 have z0 : ((xs.length : Int) != (xs.length : Int)) = false := by simp
 have z1 : (xs.length == xs.length) = true := by simp
 obtain ⟨n, hn⟩ : ∃ n, xs.length = n := ⟨_, rfl⟩
 have hnq := Aside0.mk hn
 rw [hn] at hl z0 z1 ⊢
 clear hA hB hn
 go_enter Tryd.func44, Tryd.ntmps44
 go_wp2_with fail
 go_loopg [5] n (fun kq v5 W => ∃ i : Nat, v5 = .int .i64 (i : Int) ∧ Aside0 (kq = n - i) ∧ i ≤ n ∧ Aside0 (Below w.heap.size w W))
 case atStart => exact ⟨0, rfl, ⟨rfl⟩, Nat.zero_le _, ⟨Below.refl _ _⟩⟩
 case round =>
  obtain ⟨i, rfl, hk, hi, hW⟩ := hrel
  by_cases hlt : i < n
  ·obtain ⟨a1, rfl, k1, k2⟩ := at_A2 (0 : Int) (Kd.C_below hAq.out hW.out) i (by have := hnq.out; omega) rfl
   obtain ⟨a2, rfl, k3, k4⟩ := at_A2 (0 : Int) (Kd.C_below hBq.out hW.out) i (by have := hnq.out; omega) rfl
   generalize (xs.getD i []).getD 0 (0 : Int) = x at *
   generalize (xs.getD i []).getD 1 (0 : Int) = y at *
   have hi1 : ((i : Int) < (n : Int)) = True := eq_true (by omega)
   have h0i : (0 ≤ (i : Int)) = True := eq_true (by omega)
   go_wp2_with fail
   have hbd : Below wr.heap.size wr wr.drew := below_drew1 (Below.refl _ _)
   refine st 10 (fun w' => w'.cell? (a1.add (i * 2)) = some (.int .i64 x) ∧ w'.cell? ⟨(a1.add (i * 2)).block, (a1.add (i * 2)).off + 1, none⟩ = some (.int .i64 y) ∧ w'.cell? (a2.add (i * 2)) = some (.int .i64 x) ∧ w'.cell? ⟨(a2.add (i * 2)).block, (a2.add (i * 2)).off + 1, none⟩ = some (.int .i64 y)) [] (⟨at_cell hbd k1, at_cell hbd k2, at_cell hbd k3, at_cell hbd k4⟩) (fun hHeld => ?_)
   refine pu 0 17 ?_
   refine pu 1 18 ?_
   refine pu 2 19 ?_
   refine pu 4 21 ?_
   refine pu 5 22 ?_
   refine pu 6 23 ?_
   refine tk 3 20 hHeld ?_
   refine tk 7 24 hHeld ?_
   refine on 8 25 (fun K hK => ?_)
   refine goes_ Tryd.func87 (by kernel_rfl) rfl #[.agg #[.int .i64 x, .int .i64 y], .agg #[.int .i64 x, .int .i64 y]] (by rfl) rfl rfl (by (try simp only [List.map_toArray, List.map_cons, List.map_nil]); first | done | rfl) ?_
   with_reducible refine (eqI x y _).mono ?_
   rintro e w4 ⟨rfl, hb4⟩
   refine ⟨_, rfl, ?_⟩
   have hb5 := below_step hbd hb4
   have hB4 := below_step hW.out hb5
   refine hK.out _ _ ⟨at_cell hb5 k1, at_cell hb5 k2, at_cell hb5 k3, at_cell hb5 k4⟩ (fun hHeld => ?_)
   clear hK K
   refine nm ?_
   refine pu 9 26 ?_
   refine dn ?_
   go_wp2_with fail
   go_roundg (n - (i + 1))
   case measure => have := hk.out; omega
   case rel => exact ⟨i + 1, (by go_num), ⟨rfl⟩, by omega, ⟨hB4⟩⟩
  ·have hi1 : ((i : Int) < (n : Int)) = False := eq_false (by omega)
   go_wp2_with fail
   go_ret
   exact ⟨rfl, hW.out⟩
set_option maxHeartbeats 2000000 in
theorem eqT (x y : ByteArray) (w : World) : Calls Tryd.prog 88 #[.agg #[.string x, .string y], .agg #[.string x, .string y]] w fun e w' => e = .returned (.bool true) ∧ Below w.heap.size w w' := by
 have P0 := blk_alloc (blk_new w (.cells #[.string x, .string y] 79)) (.cells #[.string x, .string y] 79)
 have P1 : ((w.alloc (.cells #[.string x, .string y] 79)).alloc (.cells #[.string x, .string y] 79)).heap[w.heap.size + 1]? = some (.cells #[.string x, .string y] 79 (0, 0)) := blk_at _ _ _ (by simp)
 have hb1 : Below w.heap.size w ((w.alloc (.cells #[.string x, .string y] 79)).alloc (.cells #[.string x, .string y] 79)) := below_alloc (below_alloc (Below.refl _ _) _) _
 go_enter Tryd.func88, Tryd.ntmps88
 go_wp2_with fail
 go_loopg [5] 3 (fun kq v5 W => (v5 = .int .i64 0 ∧ Aside0 (kq = 3) ∧ Aside0 (Below ((w.alloc (.cells #[.string x, .string y] 79)).alloc (.cells #[.string x, .string y] 79)).heap.size ((w.alloc (.cells #[.string x, .string y] 79)).alloc (.cells #[.string x, .string y] 79)) W)) ∨ (v5 = .int .i64 1 ∧ Aside0 (kq = 2) ∧ Aside0 (Below ((w.alloc (.cells #[.string x, .string y] 79)).alloc (.cells #[.string x, .string y] 79)).heap.size ((w.alloc (.cells #[.string x, .string y] 79)).alloc (.cells #[.string x, .string y] 79)) W)) ∨ (v5 = .int .i64 2 ∧ Aside0 (kq = 1) ∧ Aside0 (Below ((w.alloc (.cells #[.string x, .string y] 79)).alloc (.cells #[.string x, .string y] 79)).heap.size ((w.alloc (.cells #[.string x, .string y] 79)).alloc (.cells #[.string x, .string y] 79)) W)))
 case atStart => exact .inl ⟨rfl, ⟨rfl⟩, ⟨Below.refl _ _⟩⟩
 case round =>
  have hw1 : wrap64 (0 + 1) = 1 := by unfold wrap64; decide
  have hw2 : wrap64 (1 + 1) = 2 := by unfold wrap64; decide
  rcases hrel with ⟨rfl, hk, hB⟩ | ⟨rfl, hk, hB⟩ | ⟨rfl, hk, hB⟩
  ·have m0 : wr.cell? ⟨w.heap.size, 0, none⟩ = some (.string x) := (blk_cell (blk_below P0 hB.out) 0).trans rfl
   have m1 : wr.cell? ⟨w.heap.size + 1, 0, none⟩ = some (.string x) := (blk_cell (blk_below P1 hB.out) 0).trans rfl
   go_wp2_with fail
   go_quiet (fail)
   go_wp2_with fail
   go_roundg 2
   case measure => have := hk.out; omega
   case rel => exact .inr (.inl ⟨(by first | rfl | go_num), ⟨rfl⟩, ⟨by repeat (first | exact hB.out | apply pw_below_drewN | apply below_drew1)⟩⟩)
  ·have m0 : wr.cell? ⟨w.heap.size, 1, none⟩ = some (.string y) := (blk_cell (blk_below P0 hB.out) 1).trans rfl
   have m1 : wr.cell? ⟨w.heap.size + 1, 1, none⟩ = some (.string y) := (blk_cell (blk_below P1 hB.out) 1).trans rfl
   go_wp2_with fail
   go_quiet (fail)
   go_wp2_with fail
   go_roundg 1
   case measure => have := hk.out; omega
   case rel => exact .inr (.inr ⟨(by first | rfl | go_num), ⟨rfl⟩, ⟨by repeat (first | exact hB.out | apply pw_below_drewN | apply below_drew1)⟩⟩)
  ·go_wp2_with fail
   go_ret
   exact ⟨rfl, below_step hb1 hB.out⟩
set_option maxHeartbeats 4000000 in
set_option maxRecDepth 100000 in
theorem eqTS (xs : List (List ByteArray)) (A : Option Addr) (c : Nat) (B : Option Addr) (d : Nat) (w : World) (hA : Kd.C Text2 w A xs.length xs) (hB : Kd.C Text2 w B xs.length xs) (hl : xs.length ≤ 2000000) :
  Calls Tryd.prog 45 #[.slice A xs.length c, .slice B xs.length d] w fun e w' => e = .returned (.bool true) ∧ Below w.heap.size w w' := by
 have hAq := Aside0.mk hA
 have hBq := Aside0.mk hB
 have z0 : ((xs.length : Int) != (xs.length : Int)) = false := by simp
 have z1 : (xs.length == xs.length) = true := by simp
 obtain ⟨n, hn⟩ : ∃ n, xs.length = n := ⟨_, rfl⟩
 have hnq := Aside0.mk hn
 rw [hn] at hl z0 z1 ⊢
 clear hA hB hn
 go_enter Tryd.func45, Tryd.ntmps45
 go_wp2_with fail
 go_loopg [5] n (fun kq v5 W => ∃ i : Nat, v5 = .int .i64 (i : Int) ∧ Aside0 (kq = n - i) ∧ i ≤ n ∧ Aside0 (Below w.heap.size w W))
 case atStart => exact ⟨0, rfl, ⟨rfl⟩, Nat.zero_le _, ⟨Below.refl _ _⟩⟩
 case round =>
  obtain ⟨i, rfl, hk, hi, hW⟩ := hrel
  by_cases hlt : i < n
  ·obtain ⟨a1, rfl, k1, k2⟩ := at_A2 (⟨#[]⟩ : ByteArray) (Kd.C_below hAq.out hW.out) i (by have := hnq.out; omega) rfl
   obtain ⟨a2, rfl, k3, k4⟩ := at_A2 (⟨#[]⟩ : ByteArray) (Kd.C_below hBq.out hW.out) i (by have := hnq.out; omega) rfl
   generalize (xs.getD i []).getD 0 (⟨#[]⟩ : ByteArray) = x at *
   generalize (xs.getD i []).getD 1 (⟨#[]⟩ : ByteArray) = y at *
   have hi1 : ((i : Int) < (n : Int)) = True := eq_true (by omega)
   have h0i : (0 ≤ (i : Int)) = True := eq_true (by omega)
   go_wp2_with fail
   have hbd : Below wr.heap.size wr wr.drew := below_drew1 (Below.refl _ _)
   refine st 10 (fun w' => w'.cell? (a1.add (i * 2)) = some (.string x) ∧ w'.cell? ⟨(a1.add (i * 2)).block, (a1.add (i * 2)).off + 1, none⟩ = some (.string y) ∧ w'.cell? (a2.add (i * 2)) = some (.string x) ∧ w'.cell? ⟨(a2.add (i * 2)).block, (a2.add (i * 2)).off + 1, none⟩ = some (.string y)) [] (⟨at_cell hbd k1, at_cell hbd k2, at_cell hbd k3, at_cell hbd k4⟩) (fun hHeld => ?_)
   refine pu 0 17 ?_
   refine pu 1 18 ?_
   refine pu 2 19 ?_
   refine pu 4 21 ?_
   refine pu 5 22 ?_
   refine pu 6 23 ?_
   refine tk 3 20 hHeld ?_
   refine tk 7 24 hHeld ?_
   refine on 8 25 (fun K hK => ?_)
   refine goes_ Tryd.func88 (by kernel_rfl) rfl #[.agg #[.string x, .string y], .agg #[.string x, .string y]] (by rfl) rfl rfl (by (try simp only [List.map_toArray, List.map_cons, List.map_nil]); first | done | rfl) ?_
   with_reducible refine (eqT x y _).mono ?_
   rintro e w4 ⟨rfl, hb4⟩
   refine ⟨_, rfl, ?_⟩
   have hb5 := below_step hbd hb4
   have hB4 := below_step hW.out hb5
   refine hK.out _ _ ⟨at_cell hb5 k1, at_cell hb5 k2, at_cell hb5 k3, at_cell hb5 k4⟩ (fun hHeld => ?_)
   clear hK K
   refine nm ?_
   refine pu 9 26 ?_
   refine dn ?_
   go_wp2_with fail
   go_roundg (n - (i + 1))
   case measure => have := hk.out; omega
   case rel => exact ⟨i + 1, (by go_num), ⟨rfl⟩, by omega, ⟨hB4⟩⟩
  ·have hi1 : ((i : Int) < (n : Int)) = False := eq_false (by omega)
   go_wp2_with fail
   go_ret
   exact ⟨rfl, hW.out⟩
set_option maxHeartbeats 2000000 in
theorem eqSc (a : List Bool) (n : List (List Int)) (o : List (List ByteArray)) (A1 : Option Addr) (c1 : Nat) (A2 : Option Addr) (c2 : Nat) (A3 : Option Addr) (c3 : Nat) (B1 : Option Addr) (d1 : Nat) (B2 : Option Addr) (d2 : Nat) (B3 : Option Addr) (d3 : Nat) (w : World) (base base' : Nat) (ok ok' : Nat → Prop) (hA : SI w base ok A1 c1 a A2 c2 n A3 c3 o) (hB : SI w base' ok' B1 d1 a B2 d2 n B3 d3 o) (la : a.length ≤ 1048576) (ln : n.length ≤ 2000000) (lo : o.length ≤ 2000000) :
  Calls Tryd.prog 15 #[.agg #[.slice A1 a.length c1, .slice A2 n.length c2, .slice A3 o.length c3], .agg #[.slice B1 a.length d1, .slice B2 n.length d2, .slice B3 o.length d3]] w fun e w' => e = .returned (.bool true) ∧ Below w.heap.size w w' := by
 obtain ⟨k1, hk1⟩ := (eqBool_ev a la).rounds
 have hk1 := Aside0.mk hk1
 have P0 := Aside0.mk (blk_alloc (blk_new w (.cells #[.slice A1 a.length c1, .slice A2 n.length c2, .slice A3 o.length c3] 37)) (.cells #[.slice B1 a.length d1, .slice B2 n.length d2, .slice B3 o.length d3] 37))
 have P1 : Aside0 (((w.alloc (.cells #[.slice A1 a.length c1, .slice A2 n.length c2, .slice A3 o.length c3] 37)).alloc (.cells #[.slice B1 a.length d1, .slice B2 n.length d2, .slice B3 o.length d3] 37)).heap[w.heap.size + 1]? = some (.cells #[.slice B1 a.length d1, .slice B2 n.length d2, .slice B3 o.length d3] 37 (0, 0))) := ⟨blk_at _ _ _ (by simp)⟩
 have hb0 : Aside0 (Below w.heap.size w ((w.alloc (.cells #[.slice A1 a.length c1, .slice A2 n.length c2, .slice A3 o.length c3] 37)).alloc (.cells #[.slice B1 a.length d1, .slice B2 n.length d2, .slice B3 o.length d3] 37))) := ⟨below_alloc (below_alloc (Below.refl _ _) _) _⟩
 have hAq := Aside0.mk hA
 have hBq := Aside0.mk hB
 have lnq := Aside0.mk ln
 have loq := Aside0.mk lo
 clear hA hB ln lo
 go_enter Tryd.func15, Tryd.ntmps15
 go_wp2_with (first
  | (go_at_call 32; go_loud (
    with_reducible refine (laws_eqBoolS.calls k1 _ _ a _ _ a true _ (Kd.C_below (Kd.R_reads' hAq.out.r1).2.2 hb0.out) (Kd.R_reads' hAq.out.r1).2.1 (Kd.C_below (Kd.R_reads' hBq.out.r1).2.2 hb0.out) (Kd.R_reads' hBq.out.r1).2.1 hk1.out).mono ?_
    rintro e w1 ⟨rfl, hd1⟩
    have hb1 := hd1.below
    have r1 : w1.cell? ⟨w.heap.size, 1, none⟩ = some (.slice A2 n.length c2) := (blk_cell (blk_below P0.out hb1) 1).trans rfl
    have s1 : w1.cell? ⟨w.heap.size + 1, 1, none⟩ = some (.slice B2 n.length d2) := (blk_cell (blk_below P1.out hb1) 1).trans rfl
    have hB1 := Aside0.mk (below_step hb0.out hb1)))
  | (go_at_call 44; go_loud (
    with_reducible refine (eqIS n A2 c2 B2 d2 w1 (Kd.C_below (Kd.R_reads' hAq.out.r2).2.2 hB1.out) (Kd.C_below (Kd.R_reads' hBq.out.r2).2.2 hB1.out) lnq.out).mono ?_
    rintro e w2 ⟨rfl, hb2⟩
    have r2 : w2.cell? ⟨w.heap.size, 2, none⟩ = some (.slice A3 o.length c3) := (blk_cell (blk_below (blk_below P0.out hb1) hb2) 2).trans rfl
    have s2 : w2.cell? ⟨w.heap.size + 1, 2, none⟩ = some (.slice B3 o.length d3) := (blk_cell (blk_below (blk_below P1.out hb1) hb2) 2).trans rfl
    have hB2 := Aside0.mk (below_step hB1.out hb2)))
  | (go_at_call 45; go_loud (
    with_reducible refine (eqTS o A3 c3 B3 d3 w2 (Kd.C_below (Kd.R_reads' hAq.out.r3).2.2 hB2.out) (Kd.C_below (Kd.R_reads' hBq.out.r3).2.2 hB2.out) loq.out).mono ?_
    rintro e w3 ⟨rfl, hb3⟩
    have hB3 := Aside0.mk (below_step hB2.out hb3))))
 go_ret
 exact ⟨rfl, hB3.out⟩
end Go.Proofs.YtnjdkhnepmmfgaaDoor.Eqs
namespace Go.Proofs.YtnjdkhnepmmfgaaDoor.Ro
set_option linter.unusedVariables false
set_option linter.unusedSimpArgs false
open Go.RowKit Go.Proofs.YtnjdkhnepmmfgaaDoorW.PrintWords Go.Proofs.YtnjdkhnepmmfgaaDoorW.PrintLast Go.Proofs.YtnjdkhnepmmfgaaDoorW.PrintMore Mp Kp Mg Mk
theorem info_longs : (Tryd.prog.info? 75).map (fun i => (i.zero, i.size, i.bytes)) = some (some (.slice none 0 0), 1, 24) := by kernel_rfl
theorem info_long1 : (Tryd.prog.info? 2).map (fun i => (i.zero, i.size, i.bytes)) = some (some (.int .i64 0), 1, 8) := by kernel_rfl
theorem S_off {α : Type} {d : Kd α} {e : Nat} {W W' : World} {base : Nat} {ok : Nat → Prop} {v : Value} {xs : List α} {x : Option Nat} (h : Kd.S d e W base ok v xs) (hk : Keep W W' x) (ho : Off W x (e :: d.E)) : Kd.S d e W' base ok v xs :=
 Kd.S_mono (Kd.S_step (w1 := W') (Kd.S_bound h) (fun k hk' hlt => hk.blk k hlt (fun he => by
  obtain ⟨_, _, _, q, hq, cells, hc⟩ := hk'
  exact ho k he.symm cells q hq hc))) (fun _ hk => hk.1)
set_option maxHeartbeats 2000000 in
set_option maxRecDepth 100000 in
theorem asLongs (A : Option Addr) (c : Nat) (xs : List Int) (w : World) (hC : Kd.C (Kd.int .i64) w A xs.length xs) (hl : xs.length ≤ 1000000) :
  Calls Tryd.prog 111 #[.slice A xs.length c] w fun e w' => ∃ v, e = .returned v ∧ Kd.R (Kd.int .i64) 2 w' w.heap.size (fun _ => True) v xs ∧ Below w.heap.size w w' := by
 go_enter Tryd.func111, Tryd.ntmps111
 go_wp2_with fail
 go_loopg [3, 8] xs.length (fun kq v3 v8 W => ∃ (i : Nat) (Ar : Option Addr) (cr : Nat), v3 = .slice Ar i cr ∧ v8 = .int .i64 (i : Int) ∧ Aside0 (kq = xs.length - i) ∧ i ≤ xs.length ∧ Aside0 (Kd.R (Kd.int .i64) 2 W w.heap.size (fun _ => True) (.slice Ar i cr) (xs.take i)) ∧ Aside0 (Below w.heap.size w W))
 case atStart => exact ⟨0, none, 0, rfl, rfl, ⟨rfl⟩, Nat.zero_le _, ⟨Kd.R_nil _ _ _ _ _⟩, ⟨Below.refl _ _⟩⟩
 case round =>
  obtain ⟨i, Ar, cr, rfl, rfl, hq, hil, hR, hB⟩ := hrel
  by_cases hi : i < xs.length
  ·have hi1 : ((i : Int) < (xs.length : Int)) = True := eq_true (by omega)
   have h0i : (0 ≤ (i : Int)) = True := eq_true (by omega)
   obtain ⟨ad, rfl, k1⟩ := at_num (Kd.C_below hC hB.out) i hi
   have htk := Aside0.mk (List.take_succ_eq_append_getElem hi)
   have htl : Aside0 ((xs.take i).length = i) := ⟨by rw [List.length_take]; omega⟩
   generalize xs[i] = y at *
   go_wp2_with ((with_reducible refine gate_builtin (b := .append) (xs := #[.tmp 12, .tmp 14]) rfl ?_); go_loud (at_builtin; refine R_append' (Kd.int .i64) (w0 := w) w.heap.size rfl (.tmp 12) (.tmp 14) 75 2 (.int .i64 0) 8 rfl Tryd.underlying75 info_long1 rfl (by decide) (by decide) (.slice Ar i cr) (xs.take i) y [.int .i64 y] (fun _ => True) (fun _ => False) _ (by simp) rfl rfl rfl (fun _ h => h.elim) (fun _ _ => trivial) hR.out hB.out (Below.size hB.out) (by have := htl.out; omega) ?_; intro v6 w6 hR6 hb6 hg6 hat6; obtain ⟨A6, c6, hv6⟩ := Kd.R_slice hR6; have ev : (xs.take i ++ [y]).length = i + 1 := (by rw [List.length_append, htl.out]; rfl); rw [ev] at hv6; subst hv6))
   go_roundg (xs.length - (i + 1))
   case measure => have := hq.out; omega
   case rel => exact ⟨i + 1, A6, c6, rfl, (by go_num), ⟨by simp⟩, by omega, ⟨by rw [htk.out]; exact hR6⟩, ⟨hb6⟩⟩
  ·have hi1 : ((i : Int) < (xs.length : Int)) = False := eq_false (by omega)
   have he : i = xs.length := by omega
   subst he
   have hR2 := hR.out
   rw [List.take_length] at hR2
   go_wp2_with fail
   go_ret
   exact ⟨_, rfl, hR2, hB.out⟩
/-- The machine that is read, and the result's cell. -/
structure Pr (w0 : World) (t : Int) (AA : Option Addr) (na ca : Nat) (AN : Option Addr) (nn cn : Nat) (W : World) : Prop where
 bP : W.heap[w0.heap.size]? = some (.cells #[.int .i64 t, .int .i64 0, .slice AA na ca, .slice AN nn cn] 66 (0, 0))
 bR : W.heap[w0.heap.size + 1]? = some (.cells #[.int .i64 0, .int .i64 0, .slice none 0 0, .slice none 0 0] 27 (0, 0))
 bel : Below w0.heap.size w0 W
section
variable {w0 : World} {t : Int} {AA : Option Addr} {na ca : Nat} {AN : Option Addr} {nn cn : Nat} {W W' : World}
theorem Pr.step (h : Pr w0 t AA na ca AN nn cn W) (hb : Below W.heap.size W W') : Pr w0 t AA na ca AN nn cn W' := ⟨blk_below h.bP hb, blk_below h.bR hb, below_step h.bel hb⟩
theorem Pr.lt (h : Pr w0 t AA na ca AN nn cn W) : w0.heap.size + 1 < W.heap.size := blk_lt h.bR
end
/-- .. and the relation that is made. -/
structure Mr (w0 : World) (t : Int) (AA : Option Addr) (na ca : Nat) (AN : Option Addr) (nn cn : Nat) (gl : Nat) (vA : Value) (bs : List Bool) (vN : Value) (rws : List (List Int)) (W : World) : Prop where
 p : Pr w0 t AA na ca AN nn cn W
 bV : W.heap[gl]? = some (.cells #[.int .i64 t, .int .i64 0, vA, vN] 27 (0, 0))
 acc : Kd.R Kd.bool 4 W w0.heap.size (fun _ => True) vA bs
 nxt : Kd.S Row 75 W w0.heap.size (fun _ => True) vN rws
section
variable {w0 : World} {t : Int} {AA : Option Addr} {na ca : Nat} {AN : Option Addr} {nn cn gl : Nat} {vA vN : Value} {bs : List Bool} {rws : List (List Int)} {W W' : World}
theorem Mr.step (h : Mr w0 t AA na ca AN nn cn gl vA bs vN rws W) (hb : Below W.heap.size W W') : Mr w0 t AA na ca AN nn cn gl vA bs vN rws W' := ⟨h.p.step hb, blk_below h.bV hb, Kd.R_below h.acc hb, Kd.S_below h.nxt hb⟩
/-- The row is put behind the others. -/
theorem Mr.push {v1 : Value} {rws' : List (List Int)} (h : Mr w0 t AA na ca AN nn cn gl vA bs vN rws W) (hg : W.grownBy W' vN.ownBlock) (hR : Kd.S Row 75 W' w0.heap.size (fun _ => True) v1 rws') (hb : Below w0.heap.size w0 W') (hgl : w0.heap.size + 1 < gl) :
  W'.heap[gl]? = some (.cells #[.int .i64 t, .int .i64 0, vA, vN] 27 (0, 0)) ∧ Mr w0 t AA na ca AN nn cn gl vA bs v1 rws' (W'.setCell ⟨gl, 3, none⟩ v1) := by
 have hk := Keep.grown hg
 have o : ∀ E : List Nat, (∀ q ∈ E, q ≠ 75) → Off W vN.ownBlock E := fun E hE => Off.row (Kd.S_R h.nxt) hE
 have bV := hk.obj h.bV (off_ne h.bV (o _ (by decide)))
 refine ⟨bV, ?_⟩
 have hs := Keep.set W' ⟨gl, 3, none⟩ v1
 have p : ∀ E : List Nat, (∀ q ∈ E, q ≠ 27) → Off W' (some gl) E := fun E hE => Off.cells bV hE
 have n0 : some w0.heap.size ≠ some gl := fun e => by injection e; omega
 have n1 : some (w0.heap.size + 1) ≠ some gl := fun e => by injection e; omega
 exact ⟨⟨hs.obj (hk.obj h.p.bP (off_ne h.p.bP (o _ (by decide)))) n0, hs.obj (hk.obj h.p.bR (off_ne h.p.bR (o _ (by decide)))) n1, hb.setCell (p := ⟨gl, 3, none⟩) (by simp only; omega) v1⟩, blk_put bV 3 v1 rfl, R_off (R_off h.acc hk (o _ (by decide))) hs (p _ (by decide)), S_off hR hs (p _ (by decide))⟩
end
set_option maxHeartbeats 8000000 in
set_option maxRecDepth 100000 in
theorem relationOf (t : Int) (accs : List Bool) (rows : List (List Int)) (h0 : 0 < accs.length) (hn : accs.length ≤ 150) (hn2 : rows.length ≤ 1000000) (hn3 : ∀ r ∈ rows, r.length ≤ 1000000) (w : World) (AA : Option Addr) (ca : Nat) (AN : Option Addr) (cn : Nat) (hA : Kd.C Kd.bool w AA accs.length accs) (hN : Kd.C (Kd.slice 3 (Kd.int .i64)) w AN rows.length rows) :
  Calls Tryd.prog 95 #[.agg #[.int .i64 t, .int .i64 0, .slice AA accs.length ca, .slice AN rows.length cn]] w fun e w' => ∃ A2 c2 A3 c3, e = .returned (.tuple #[.agg #[.int .i64 t, .int .i64 0, .slice A2 accs.length c2, .slice A3 rows.length c3], .int .i64 0]) ∧ Rel w' w.heap.size (fun _ => True) A2 c2 accs A3 c3 rows ∧ Below w.heap.size w w' := by
 have hP : Pr w t AA accs.length ca AN rows.length cn ((w.alloc (.cells #[.int .i64 t, .int .i64 0, .slice AA accs.length ca, .slice AN rows.length cn] 66)).alloc (.cells #[.int .i64 0, .int .i64 0, .slice none 0 0, .slice none 0 0] 27)) :=
  ⟨blk_alloc (blk_new _ _) _, blk_at _ _ _ (by simp), below_alloc (below_alloc (Below.refl _ _) _) _⟩
 have k2 : ((w.alloc (.cells #[.int .i64 t, .int .i64 0, .slice AA accs.length ca, .slice AN rows.length cn] 66)).alloc (.cells #[.int .i64 0, .int .i64 0, .slice none 0 0, .slice none 0 0] 27)).cell? ⟨w.heap.size, 2, none⟩ = some (.slice AA accs.length ca) := (blk_cell hP.bP 2).trans rfl
 have hlt0 : ((150 : Int) < (accs.length : Int)) = False := eq_false (by omega)
 go_enter Tryd.func95, Tryd.ntmps95
 go_wp2
 clear k2 hlt0
 have hPd := hP.step (below_drew1 (Below.refl _ _))
 clear hP
 generalize hwd : (w.alloc (.cells #[.int .i64 t, .int .i64 0, .slice AA accs.length ca, .slice AN rows.length cn] 66)).alloc (.cells #[.int .i64 0, .int .i64 0, .slice none 0 0, .slice none 0 0] 27) = wd at *
 have hSS : ∀ W', Pr w t AA accs.length ca AN rows.length cn W' → (fun w' => w'.cell? ⟨w.heap.size, 0, none⟩ = some (.int .i64 t) ∧ w'.cell? ⟨w.heap.size, 1, none⟩ = some (.int .i64 0) ∧ w'.cell? ⟨w.heap.size, 2, none⟩ = some (.slice AA accs.length ca)) W' := fun W' h => ⟨(blk_cell h.bP 0).trans rfl, (blk_cell h.bP 1).trans rfl, (blk_cell h.bP 2).trans rfl⟩
 refine start_ (n := 10) (S := fun w' => w'.cell? ⟨w.heap.size, 0, none⟩ = some (.int .i64 t) ∧ w'.cell? ⟨w.heap.size, 1, none⟩ = some (.int .i64 0) ∧ w'.cell? ⟨w.heap.size, 2, none⟩ = some (.slice AA accs.length ca)) (ds := [9]) (.replicate 10 false) (by kernel_rfl) rfl rfl (hSS _ hPd) (fun hHeld => ?_)
 refine pure_ (i := 0) (N := some 12) (v := ?_) (a' := ?_) (zb 10 1) rfl rfl (by kernel_rfl) (fun _ _ _ h => h) (Or.inl ⟨by rfl, ?_⟩) ?_ ?_
 rotate_left
 ·intro w'
  go_simp
  with_reducible rfl
 rotate_left
 ·simp only [Act.put, Za, Zb, Zc, i64_w, i32_w]
  rfl
 refine pure_ (i := 2) (N := some 14) (v := ?_) (a' := ?_) (zb 10 5) rfl rfl (by kernel_rfl) (fun _ _ _ h => h) (Or.inl ⟨by rfl, ?_⟩) ?_ ?_
 rotate_left
 ·intro w'
  go_simp
  with_reducible rfl
 rotate_left
 ·simp only [Act.put, Za, Zb, Zc, i64_w, i32_w]
  rfl
 refine pure_ (i := 4) (N := some 16) (v := ?_) (a' := ?_) (zb 10 21) rfl rfl (by kernel_rfl) (fun _ _ _ h => h) (Or.inl ⟨by rfl, ?_⟩) ?_ ?_
 rotate_left
 ·intro w'
  go_simp
  with_reducible rfl
 rotate_left
 ·simp only [Act.put, Za, Zb, Zc, i64_w, i32_w]
  rfl
 refine take_ (i := 1) (N := some 13) (v := ?_) (a' := ?_) (zb 10 23) rfl rfl (by kernel_rfl) (fun _ _ _ h => h) (Or.inl ⟨by rfl, ?_⟩) hHeld ?_ ?_
 rotate_left
 ·rintro w' ⟨s1, s2, s3⟩
  go_simp
  with_reducible rfl
 rotate_left
 ·simp only [Act.put, Za, Zb, Zc, i64_w, i32_w]
  rfl
 refine take_ (i := 3) (N := some 15) (v := ?_) (a' := ?_) (zb 10 31) rfl rfl (by kernel_rfl) (fun _ _ _ h => h) (Or.inl ⟨by rfl, ?_⟩) hHeld ?_ ?_
 rotate_left
 ·rintro w' ⟨s1, s2, s3⟩
  go_simp
  with_reducible rfl
 rotate_left
 ·simp only [Act.put, Za, Zb, Zc, i64_w, i32_w]
  rfl
 refine take_ (i := 5) (N := some 17) (v := ?_) (a' := ?_) (zb 10 63) rfl rfl (by kernel_rfl) (fun _ _ _ h => h) (Or.inl ⟨by rfl, ?_⟩) hHeld ?_ ?_
 rotate_left
 ·rintro w' ⟨s1, s2, s3⟩
  go_simp
  with_reducible rfl
 rotate_left
 ·simp only [Act.put, Za, Zb, Zc, i64_w, i32_w]
  rfl
 refine join_ (σ := Value × Nat) 1 #[true, true, true, true, true, true, true, true, true, false] (fun s => [(18, s.1), (19, .agg #[.int .i64 t, .int .i64 0, s.1, .slice none 0 0]), (4, .pointer (some ⟨s.2, 0, none⟩))])
  (fun s w' => Pr w t AA accs.length ca AN rows.length cn w' ∧ Kd.R Kd.bool 4 w' w.heap.size (fun _ => True) s.1 accs ∧ w'.heap[s.2]? = some (.cells #[.int .i64 0, .int .i64 0, .slice none 0 0, .slice none 0 0] 27 (0, 0)) ∧ w.heap.size + 1 < s.2) ?_ ?_
 rotate_left
 ·intro hCont
  refine two_ (i := 6) (j := 8) (Ni := some 18) (Nj := some 4) #[true, true, true, true, true, true, true, false, false, false] #[true, true, true, true, true, true, false, false, true, false] rfl rfl rfl rfl (by kernel_rfl) (by decide) (by decide) (fun K hK => ?_) (fun K hK => ?_)
  ·skip
   refine goes_ Tryd.func101 (by kernel_rfl) rfl #[.slice AA accs.length ca] (by rfl) rfl rfl (by (try simp only [List.map_toArray, List.map_cons, List.map_nil]); first | done | rfl) ?_
   with_reducible refine (Mo.clone _ AA ca accs h0 (by omega) (Kd.C_below hA hPd.bel)).mono ?_
   rintro e w6 ⟨vA, rfl, r1, hb6⟩
   refine ⟨_, rfl, ?_⟩
   have h6 := hPd.step hb6
   have q1 := Kd.R_lower r1 (Below.size hPd.bel)
   obtain ⟨A1, c1, rfl⟩ := Kd.R_slice q1
   refine hK.out _ _ (hSS _ h6) (fun hHeld => ?_)
   clear hK K
   refine norm_ (a' := ?_) ?_ ?_
   rotate_left
   ·show Act.put _ (some 18) _ = _
    simp only [Act.put, Za, Zb, Zc, i64_w, i32_w]
    rfl
   refine pure_ (i := 7) (N := some 19) (v := ?_) (a' := ?_) (zb 10 255) rfl rfl (by kernel_rfl) (fun _ _ _ h => h) (Or.inl ⟨by rfl, ?_⟩) ?_ ?_
   rotate_left
   ·intro w'
    go_simp
    with_reducible rfl
   rotate_left
   ·simp only [Act.put, Za, Zb, Zc, i64_w, i32_w]
    rfl
   refine one_ (i := 8) (N := some 4) (zb 10 511) rfl rfl (by kernel_rfl) (by decide) (fun K hK => ?_)
   refine value_ (w1 := w6.alloc (.cells #[.int .i64 0, .int .i64 0, .slice none 0 0, .slice none 0 0] 27)) (v := .pointer (some ⟨w6.heap.size, 0, none⟩)) (by rfl) rfl (by first | (go_simp; done) | (go_simp; rfl)) ?_
   have h7 := h6.step (below_alloc (Below.refl _ _) (.cells #[.int .i64 0, .int .i64 0, .slice none 0 0, .slice none 0 0] 27))
   refine hK.out _ _ (hSS _ h7) (fun hHeld => ?_)
   clear hK K
   refine norm_ (a' := ?_) ?_ ?_
   rotate_left
   ·show Act.put _ (some 4) _ = _
    simp only [Act.put, Za, Zb, Zc, i64_w, i32_w]
    rfl
   exact norm_ (by simp only [putAll, Act.put, List.setIfInBounds_toArray, List.set_cons_zero, List.set_cons_succ]) (hCont (.slice A1 accs.length c1, w6.heap.size) _ ⟨h7, Kd.R_below q1 (below_alloc (Below.refl _ _) _), blk_new _ _, h6.lt⟩)
  ·skip
   refine value_ (w1 := wd.drew.alloc (.cells #[.int .i64 0, .int .i64 0, .slice none 0 0, .slice none 0 0] 27)) (v := .pointer (some ⟨wd.drew.heap.size, 0, none⟩)) (by rfl) rfl (by first | (go_simp; done) | (go_simp; rfl)) ?_
   have h6 := hPd.step (below_alloc (Below.refl _ _) (.cells #[.int .i64 0, .int .i64 0, .slice none 0 0, .slice none 0 0] 27))
   refine hK.out _ _ (hSS _ h6) (fun hHeld => ?_)
   clear hK K
   refine norm_ (a' := ?_) ?_ ?_
   rotate_left
   ·show Act.put _ (some 4) _ = _
    simp only [Act.put, Za, Zb, Zc, i64_w, i32_w]
    rfl
   refine one_ (i := 6) (N := some 18) (zb 10 383) rfl rfl (by kernel_rfl) (by decide) (fun K hK => ?_)
   refine goes_ Tryd.func101 (by kernel_rfl) rfl #[.slice AA accs.length ca] (by rfl) rfl rfl (by (try simp only [List.map_toArray, List.map_cons, List.map_nil]); first | done | rfl) ?_
   with_reducible refine (Mo.clone _ AA ca accs h0 (by omega) (Kd.C_below hA h6.bel)).mono ?_
   rintro e w7 ⟨vA, rfl, r1, hb6⟩
   refine ⟨_, rfl, ?_⟩
   have h7 := h6.step hb6
   have q1 := Kd.R_lower r1 (Below.size h6.bel)
   obtain ⟨A1, c1, rfl⟩ := Kd.R_slice q1
   refine hK.out _ _ (hSS _ h7) (fun hHeld => ?_)
   clear hK K
   refine norm_ (a' := ?_) ?_ ?_
   rotate_left
   ·show Act.put _ (some 18) _ = _
    simp only [Act.put, Za, Zb, Zc, i64_w, i32_w]
    rfl
   refine pure_ (i := 7) (N := some 19) (v := ?_) (a' := ?_) (zb 10 511) rfl rfl (by kernel_rfl) (fun _ _ _ h => h) (Or.inl ⟨by rfl, ?_⟩) ?_ ?_
   rotate_left
   ·intro w'
    go_simp
    with_reducible rfl
   rotate_left
   ·simp only [Act.put, Za, Zb, Zc, i64_w, i32_w]
    rfl
   exact norm_ (by simp only [putAll, Act.put, List.setIfInBounds_toArray, List.set_cons_zero, List.set_cons_succ]) (hCont (.slice A1 accs.length c1, wd.drew.heap.size) _ ⟨h7, q1, blk_below (blk_new _ _) hb6, hPd.lt⟩)
 rintro ⟨vA, gl⟩ w8 ⟨h8, r1, b0, hgl⟩
 dsimp only at r1 b0 hgl ⊢
 obtain ⟨A1, c1, rfl⟩ := Kd.R_slice r1
 refine norm_ (a' := ?_) ?_ ?_
 rotate_left
 ·simp only [putAll, Act.put, List.setIfInBounds_toArray, List.set_cons_zero, List.set_cons_succ, i64_w, i32_w]
  rfl
 have e0 : w8.cell? ⟨gl, 0, none⟩ = some (.int .i64 0) := (blk_cell b0 0).trans rfl
 have f0 : w8.frozen? ⟨gl, 0, none⟩ = false := blk_frozen b0 0
 have e1 : w8.cell? ⟨gl, 1, none⟩ = some (.int .i64 0) := (blk_cell b0 1).trans rfl
 have f1 : w8.frozen? ⟨gl, 1, none⟩ = false := blk_frozen b0 1
 have e2 : w8.cell? ⟨gl, 2, none⟩ = some (.slice none 0 0) := (blk_cell b0 2).trans rfl
 have f2 : w8.frozen? ⟨gl, 2, none⟩ = false := blk_frozen b0 2
 have e3 : w8.cell? ⟨gl, 3, none⟩ = some (.slice none 0 0) := (blk_cell b0 3).trans rfl
 have f3 : w8.frozen? ⟨gl, 3, none⟩ = false := blk_frozen b0 3
 refine last_ (i := 9) (N := none) (zb 10 1023) rfl rfl (by kernel_rfl) (by decide) (fun K hK => ?_)
 refine skip_ (w1 := (((w8.setCell ⟨gl, 0, none⟩ (.int .i64 t)).setCell ⟨gl, 1, none⟩ (.int .i64 0)).setCell ⟨gl, 2, none⟩ (.slice A1 accs.length c1)).setCell ⟨gl, 3, none⟩ (.slice none 0 0)) (by rfl) rfl (by first | (go_simp; done) | (go_simp; rfl)) ?_
 refine hK.out _ _ ?_
 clear hK K
 refine done_ (by kernel_rfl) ?_
 have hgg : w.heap.size ≤ gl := by omega
 have n0 : some w.heap.size ≠ some gl := fun e => by injection e; omega
 have n1 : some (w.heap.size + 1) ≠ some gl := fun e => by injection e; omega
 have b1 := blk_put b0 0 (.int .i64 t) rfl
 have b2 := blk_put b1 1 (.int .i64 0) rfl
 have b3 := blk_put b2 2 (.slice A1 accs.length c1) rfl
 have b4 := blk_put b3 3 (.slice none 0 0) rfl
 have q1 := Kd.R_set (Kd.R_set (Kd.R_set (Kd.R_set r1 b0 (by decide) 0 (.int .i64 t)) b1 (by decide) 1 (.int .i64 0)) b2 (by decide) 2 (.slice A1 accs.length c1)) b3 (by decide) 3 (.slice none 0 0)
 have hB := (((h8.bel.setCell (p := ⟨gl, 0, none⟩) hgg (.int .i64 t)).setCell (p := ⟨gl, 1, none⟩) hgg (.int .i64 0)).setCell (p := ⟨gl, 2, none⟩) hgg (.slice A1 accs.length c1)).setCell (p := ⟨gl, 3, none⟩) hgg (.slice none 0 0)
 have bP := (Keep.set _ ⟨gl, 3, none⟩ (.slice none 0 0)).obj ((Keep.set _ ⟨gl, 2, none⟩ (.slice A1 accs.length c1)).obj ((Keep.set _ ⟨gl, 1, none⟩ (.int .i64 0)).obj ((Keep.set _ ⟨gl, 0, none⟩ (.int .i64 t)).obj h8.bP n0) n0) n0) n0
 have bR := (Keep.set _ ⟨gl, 3, none⟩ (.slice none 0 0)).obj ((Keep.set _ ⟨gl, 2, none⟩ (.slice A1 accs.length c1)).obj ((Keep.set _ ⟨gl, 1, none⟩ (.int .i64 0)).obj ((Keep.set _ ⟨gl, 0, none⟩ (.int .i64 t)).obj h8.bR n1) n1) n1) n1
 clear b0 b1 b2 b3 r1 e0 e1 e2 e3 f0 f1 f2 f3 h8 hSS hPd n0 n1
 generalize ((((w8.setCell ⟨gl, 0, none⟩ (.int .i64 t)).setCell ⟨gl, 1, none⟩ (.int .i64 0)).setCell ⟨gl, 2, none⟩ (.slice A1 accs.length c1)).setCell ⟨gl, 3, none⟩ (.slice none 0 0)) = w9 at *
 have hM : Mr w t AA accs.length ca AN rows.length cn gl (.slice A1 accs.length c1) accs (.slice none 0 0) [] w9 := ⟨⟨bP, bR, hB⟩, b4, q1, Kd.S_nil _ _ _ _ _⟩
 have c3 : w9.cell? ⟨w.heap.size, 3, none⟩ = some (.slice AN rows.length cn) := (blk_cell bP 3).trans rfl
 clear bP bR hB b4 q1
 go_wp2
 clear c3
 go_loopg [23] rows.length (fun kq v23 wr => ∃ (i : Nat) (A2 : Option Addr) (c2 : Nat), v23 = .int .i64 (i : Int) ∧ Aside0 (kq = rows.length - i) ∧ i ≤ rows.length ∧ Aside0 (Mr w t AA accs.length ca AN rows.length cn gl (.slice A1 accs.length c1) accs (.slice A2 i c2) (rows.take i) wr))
 case atStart => exact ⟨0, none, 0, rfl, ⟨by simp⟩, Nat.zero_le _, ⟨hM⟩⟩
 case round =>
  clear hM
  obtain ⟨wo, rfl⟩ : ∃ wo : World, wo = wr := ⟨_, rfl⟩
  obtain ⟨i, A2, c2, rfl, hkq, hil, hM⟩ := hrel
  replace hM := hM.out
  by_cases hlt : i < rows.length
  ·obtain ⟨ad, rfl, A', c', k1, k2, k3⟩ := at_row (Kd.C_below hN hM.p.bel) i hlt
   have hrl : rows[i].length ≤ 1000000 := hn3 _ (List.getElem_mem hlt)
   have htk2 := Aside0.mk (List.take_succ_eq_append_getElem hlt)
   have hil2 : Aside0 ((rows.take i).length = i) := ⟨by rw [List.length_take]; omega⟩
   generalize rows[i] = ri at *
   have hlt1 : ((i : Int) < (rows.length : Int)) = True := eq_true (by omega)
   have h0i : (0 ≤ (i : Int)) = True := eq_true (by omega)
   go_wp2_with fail
   have h3 := hM.step (below_drew1 (Below.refl _ _))
   refine start_ (n := 8) (S := fun w' => w'.cell? ⟨gl, 3, none⟩ = some (.slice A2 i c2)) (ds := [7]) (.replicate 8 false) (by kernel_rfl) rfl rfl ((blk_cell h3.bV 3).trans rfl) (fun hHeld => ?_)
   refine pure_ (i := 0) (N := some 27) (v := ?_) (a' := ?_) (zb 8 1) rfl rfl (by kernel_rfl) (fun _ _ _ h => h) (Or.inl ⟨by rfl, ?_⟩) ?_ ?_
   rotate_left
   ·intro w'
    go_simp
    with_reducible rfl
   rotate_left
   ·simp only [Act.put, Za, Zb, Zc, i64_w, i32_w]
    rfl
   refine pure_ (i := 2) (N := some 29) (v := ?_) (a' := ?_) (zb 8 5) rfl rfl (by kernel_rfl) (fun _ _ _ h => h) (Or.inl ⟨by rfl, ?_⟩) ?_ ?_
   rotate_left
   ·intro w'
    go_simp
    with_reducible rfl
   rotate_left
   ·simp only [Act.put, Za, Zb, Zc, i64_w, i32_w]
    rfl
   refine take_ (i := 1) (N := some 28) (v := ?_) (a' := ?_) (zb 8 7) rfl rfl (by kernel_rfl) (fun _ _ _ h => h) (Or.inl ⟨by rfl, ?_⟩) hHeld ?_ ?_
   rotate_left
   ·rintro w' s0
    go_simp
    with_reducible rfl
   rotate_left
   ·simp only [Act.put, Za, Zb, Zc, i64_w, i32_w]
    rfl
   refine one_ (i := 3) (N := some 30) (zb 8 15) rfl rfl (by kernel_rfl) (by decide) (fun K hK => ?_)
   refine goes_ Tryd.func111 (by kernel_rfl) rfl #[.slice A' ri.length c'] (by rfl) rfl rfl (by (try simp only [List.map_toArray, List.map_cons, List.map_nil]); first | done | rfl) ?_
   with_reducible refine (asLongs A' c' ri _ (Kd.C_below k3 (below_drew1 (Below.refl _ _))) hrl).mono ?_
   rintro e w4 ⟨v4, rfl, r4, hb4⟩
   obtain ⟨A4, c4, e4⟩ := Kd.R_slice r4
   subst e4
   refine ⟨_, rfl, ?_⟩
   have h4 := h3.step hb4
   refine hK.out _ _ ((blk_cell h4.bV 3).trans rfl) (fun hHeld => ?_)
   clear hK K
   refine norm_ (a' := ?_) ?_ ?_
   rotate_left
   ·show Act.put _ (some 30) _ = _
    simp only [Act.put, Za, Zb, Zc, i64_w, i32_w]
    rfl
   refine one_ (i := 4) (N := some 31) (zb 8 31) rfl rfl (by kernel_rfl) (by decide) (fun K hK => ?_)
   refine value_ (w1 := w4.alloc (.cells #[.slice A4 ri.length c4] 75)) (v := .slice (some ⟨w4.heap.size, 0, none⟩) 1 1) (by rfl) rfl (by first | (go_simp; done) | (go_simp; rfl)) ?_
   have h5 := h4.step (below_alloc (Below.refl _ _) (.cells #[.slice A4 ri.length c4] 75))
   refine hK.out _ _ ((blk_cell h5.bV 3).trans rfl) (fun hHeld => ?_)
   clear hK K
   refine norm_ (a' := ?_) ?_ ?_
   rotate_left
   ·show Act.put _ (some 31) _ = _
    simp only [Act.put, Za, Zb, Zc, i64_w, i32_w]
    rfl
   refine one_ (i := 5) (N := some 32) (zb 8 63) rfl rfl (by kernel_rfl) (by decide) (fun K hK => ?_)
   refine Kd.S_append_step Row (w0 := w) w.heap.size (by rfl) (.tmp 28) (.tmp 31) 23 75 (.slice none 0 0) 24 rfl Tryd.underlying23 info_longs rfl (by decide) (by decide) (.slice A2 i c2) (rows.take i) ri [.slice A4 ri.length c4] (fun _ => True) (fun k => wo.heap.size ≤ k ∧ some k ≠ (Value.slice A2 i c2).ownBlock) rfl rfl
    (Kd.M_row (Kd.R_mono (Kd.R_lower (Kd.R_bound r4) (Below.size h3.p.bel)) (fun k hk => ⟨hk.2.1, fun e => by have := Kd.S_lt hM.nxt k e.symm; have h2 : wo.heap.size ≤ k := hk.2.1; omega⟩))) (fun k hk => ⟨trivial, hk.2⟩) (fun _ _ => trivial)
    (Kd.S_mono (Kd.S_below (Kd.S_mono (Kd.S_bound hM.nxt) (ok' := fun k => True ∧ k < wo.heap.size) (fun k hk => ⟨trivial, hk.2.2.1⟩)) (below_step (below_drew1 (Below.refl _ _)) hb4)) (fun k hk => ⟨trivial, fun h => by have := h.1; have := hk.2; omega⟩)) h4.p.bel (Below.size h4.p.bel) (by have := hil2.out; omega) ?_
   intro v6 w6 hR6 hb6 hg6 hat6
   obtain ⟨A6, c6, hv6⟩ := Kd.S_slice hR6
   have ev6 : (rows.take i ++ [ri]).length = i + 1 := by rw [List.length_append, hil2.out]; rfl
   rw [ev6] at hv6
   subst hv6
   obtain ⟨b8, h9⟩ := h4.push hg6 hR6 hb6 hgl
   refine hK.out _ _ ((blk_cell b8 3).trans rfl) (fun hHeld => ?_)
   clear hK K
   refine norm_ (a' := ?_) ?_ ?_
   rotate_left
   ·show Act.put _ (some 32) _ = _
    simp only [Act.put, Za, Zb, Zc, i64_w, i32_w]
    rfl
   refine pure_ (i := 6) (N := some 33) (v := ?_) (a' := ?_) (zb 8 127) rfl rfl (by kernel_rfl) (fun _ _ _ h => h) (Or.inl ⟨by rfl, ?_⟩) ?_ ?_
   rotate_left
   ·intro w'
    go_simp
    with_reducible rfl
   rotate_left
   ·simp only [Act.put, Za, Zb, Zc, i64_w, i32_w]
    rfl
   have c83 : w6.cell? ⟨gl, 3, none⟩ = some (.slice A2 i c2) := (blk_cell b8 3).trans rfl
   have f83 : w6.frozen? ⟨gl, 3, none⟩ = false := blk_frozen b8 3
   refine last_ (i := 7) (N := none) (zb 8 255) rfl rfl (by kernel_rfl) (by decide) (fun K hK => ?_)
   refine skip_ (w1 := w6.setCell ⟨gl, 3, none⟩ (.slice A6 (i + 1) c6)) (by rfl) rfl (by first | (go_simp; done) | (go_simp; rfl)) ?_
   refine hK.out _ _ ?_
   clear hK K
   refine done_ (by kernel_rfl) ?_
   clear h3 h4 h5 hHeld c83 f83 b8 hR6 hg6 hb6
   generalize w6.setCell ⟨gl, 3, none⟩ (.slice A6 (i + 1) c6) = w7 at h9 ⊢
   go_wp2_with fail
   go_roundg (rows.length - (i + 1))
   case measure => have := hkq.out; omega
   case rel => exact ⟨i + 1, A6, c6, (by go_num), ⟨by simp⟩, by omega, ⟨by rw [htk2.out]; exact h9⟩⟩
  ·have hii : i = rows.length := by omega
   subst i
   have hlt1 : ((rows.length : Int) < (rows.length : Int)) = False := eq_false (by omega)
   rw [List.take_length] at hM
   have bV := hM.bV
   have d0 : wo.cell? ⟨gl, 0, none⟩ = some (.int .i64 t) := (blk_cell bV 0).trans rfl
   have d1 : wo.cell? ⟨gl, 1, none⟩ = some (.int .i64 0) := (blk_cell bV 1).trans rfl
   have d2 : wo.cell? ⟨gl, 2, none⟩ = some (.slice A1 accs.length c1) := (blk_cell bV 2).trans rfl
   have d3 : wo.cell? ⟨gl, 3, none⟩ = some (.slice A2 rows.length c2) := (blk_cell bV 3).trans rfl
   have b := hM.p.bR
   have e0 : wo.cell? ⟨w.heap.size + 1, 0, none⟩ = some (.int .i64 0) := (blk_cell b 0).trans rfl
   have e1 : wo.cell? ⟨w.heap.size + 1, 1, none⟩ = some (.int .i64 0) := (blk_cell b 1).trans rfl
   have e2 : wo.cell? ⟨w.heap.size + 1, 2, none⟩ = some (.slice none 0 0) := (blk_cell b 2).trans rfl
   have e3 : wo.cell? ⟨w.heap.size + 1, 3, none⟩ = some (.slice none 0 0) := (blk_cell b 3).trans rfl
   have f0 : wo.frozen? ⟨w.heap.size + 1, 0, none⟩ = false := blk_frozen b 0
   have f1 : wo.frozen? ⟨w.heap.size + 1, 1, none⟩ = false := blk_frozen b 1
   have f2 : wo.frozen? ⟨w.heap.size + 1, 2, none⟩ = false := blk_frozen b 2
   have f3 : wo.frozen? ⟨w.heap.size + 1, 3, none⟩ = false := blk_frozen b 3
   go_wp2_with fail
   have b1 := blk_put b 0 (.int .i64 t) rfl
   have b2 := blk_put b1 1 (.int .i64 0) rfl
   have b3 := blk_put b2 2 (.slice A1 accs.length c1) rfl
   have b5 := blk_put b3 3 (.slice A2 rows.length c2) rfl
   refine bodyPost_ret (results_ct rfl _ _ (w.heap.size + 1) 27 #[.int .i64 t, .int .i64 0, .slice A1 accs.length c1, .slice A2 rows.length c2] (0, 0) _ rfl b5 Tryd.underlying27 rfl (by kernel_rfl)) rfl ⟨_, _, _, _, rfl, ⟨?_, ?_⟩, ?_⟩
   ·exact Kd.R_set (Kd.R_set (Kd.R_set (Kd.R_set hM.acc b (by decide) 0 _) b1 (by decide) 1 _) b2 (by decide) 2 _) b3 (by decide) 3 _
   ·exact Kd.S_set (Kd.S_set (Kd.S_set (Kd.S_set hM.nxt b (by decide) 0 _) b1 (by decide) 1 _) b2 (by decide) 2 _) b3 (by decide) 3 _
   ·exact (((hM.p.bel.setCell (by simp) _).setCell (by simp) _).setCell (by simp) _).setCell (by simp) _
set_option maxHeartbeats 4000000 in
/-- .. too many states. -/
theorem relationOf_big (t : Int) (na : Nat) (nn : Nat) (h0 : 150 < na) (w : World) (AA : Option Addr) (ca : Nat) (AN : Option Addr) (cn : Nat) :
  Calls Tryd.prog 95 #[.agg #[.int .i64 t, .int .i64 0, .slice AA na ca, .slice AN nn cn]] w fun e w' => e = .returned (.tuple #[.agg #[.int .i64 0, .int .i64 0, .slice none 0 0, .slice none 0 0], .int .i64 3]) ∧ Below w.heap.size w w' := by
 have bP := blk_alloc (blk_new w (.cells #[.int .i64 t, .int .i64 0, .slice AA na ca, .slice AN nn cn] 66)) (.cells #[.int .i64 0, .int .i64 0, .slice none 0 0, .slice none 0 0] 27)
 have b : ((w.alloc (.cells #[.int .i64 t, .int .i64 0, .slice AA na ca, .slice AN nn cn] 66)).alloc (.cells #[.int .i64 0, .int .i64 0, .slice none 0 0, .slice none 0 0] 27)).heap[w.heap.size + 1]? = some (.cells #[.int .i64 0, .int .i64 0, .slice none 0 0, .slice none 0 0] 27 (0, 0)) := blk_at _ _ _ (by simp)
 have hB := below_alloc (below_alloc (Below.refl w.heap.size w) (.cells #[.int .i64 t, .int .i64 0, .slice AA na ca, .slice AN nn cn] 66)) (.cells #[.int .i64 0, .int .i64 0, .slice none 0 0, .slice none 0 0] 27)
 have hlt0 : ((150 : Int) < (na : Int)) = True := eq_true (by omega)
 go_enter Tryd.func95, Tryd.ntmps95
 generalize hwx : (w.alloc (.cells #[.int .i64 t, .int .i64 0, .slice AA na ca, .slice AN nn cn] 66)).alloc (.cells #[.int .i64 0, .int .i64 0, .slice none 0 0, .slice none 0 0] 27) = wx at *
 have k2 : wx.cell? ⟨w.heap.size, 2, none⟩ = some (.slice AA na ca) := (blk_cell bP 2).trans rfl
 have e0 : wx.cell? ⟨w.heap.size + 1, 0, none⟩ = some (.int .i64 0) := (blk_cell b 0).trans rfl
 have e1 : wx.cell? ⟨w.heap.size + 1, 1, none⟩ = some (.int .i64 0) := (blk_cell b 1).trans rfl
 have e2 : wx.cell? ⟨w.heap.size + 1, 2, none⟩ = some (.slice none 0 0) := (blk_cell b 2).trans rfl
 have e3 : wx.cell? ⟨w.heap.size + 1, 3, none⟩ = some (.slice none 0 0) := (blk_cell b 3).trans rfl
 have f0 : wx.frozen? ⟨w.heap.size + 1, 0, none⟩ = false := blk_frozen b 0
 have f1 : wx.frozen? ⟨w.heap.size + 1, 1, none⟩ = false := blk_frozen b 1
 have f2 : wx.frozen? ⟨w.heap.size + 1, 2, none⟩ = false := blk_frozen b 2
 have f3 : wx.frozen? ⟨w.heap.size + 1, 3, none⟩ = false := blk_frozen b 3
 go_wp2
 have b1 := blk_put b 0 (.int .i64 0) rfl
 have b2 := blk_put b1 1 (.int .i64 0) rfl
 have b3 := blk_put b2 2 (.slice none 0 0) rfl
 have b5 := blk_put b3 3 (.slice none 0 0) rfl
 refine bodyPost_ret (results_ct rfl _ _ (w.heap.size + 1) 27 #[.int .i64 0, .int .i64 0, .slice none 0 0, .slice none 0 0] (0, 0) _ rfl b5 Tryd.underlying27 rfl (by kernel_rfl)) rfl ⟨rfl, ?_⟩
 repeat (first | exact hB | (refine Below.setCell ?_ (by simp) _))
end Go.Proofs.YtnjdkhnepmmfgaaDoor.Ro
namespace Go.Proofs.YtnjdkhnepmmfgaaDoor.Tr
set_option linter.unusedVariables false
set_option linter.unusedSimpArgs false
open Go.RowKit Go.Proofs.YtnjdkhnepmmfgaaDoorW.PrintWords Go.Proofs.YtnjdkhnepmmfgaaDoorW.PrintLast Go.Proofs.YtnjdkhnepmmfgaaDoorW.PrintMore Kp Mg Mk Tdy Td Rg Ti Tf PB1 Tid
structure RRes where
 t : Int
 s : Int
 a : List Bool
 b : List (List Int)
 c : Int
def bad (c : Int) : RRes := ⟨0, 0, [], [], c⟩
def toldR (t : Int) (a : List Bool) (b : List (List Int)) : RRes := if a.length ≤ 150 then ⟨t, 0, a, b, 0⟩ else bad 3
/-- A relation of its own, and a code, are returned. -/
def Gives (R : RRes) (w0 : World) (e : Ending) (w' : World) : Prop := ∃ A2 c2 A3 c3, e = .returned (.tuple #[.agg #[.int .i64 R.t, .int .i64 R.s, .slice A2 R.a.length c2, .slice A3 R.b.length c3], .int .i64 R.c]) ∧ Rel w' w0.heap.size (fun _ => True) A2 c2 R.a A3 c3 R.b ∧ Below w0.heap.size w0 w'
theorem gives_bad {c : Int} {w0 w' : World} {e : Ending} (he : e = .returned (.tuple #[.agg #[.int .i64 0, .int .i64 0, .slice none 0 0, .slice none 0 0], .int .i64 c])) (hb : Below w0.heap.size w0 w') : Gives (bad c) w0 e w' :=
 ⟨none, 0, none, 0, he, ⟨Kd.R_nil _ _ _ _ _, Kd.S_nil _ _ _ _ _⟩, hb⟩
theorem tidy_calls (t s : Nat) (accs : List Bool) (rows : List (List Nat)) (ht1 : 0 < t) (ht2 : t < 4) (hs : s < rows.length) (hcl : Closed (wdOf t) rows accs) (hn : rows.length ≤ 100000) (w : World) (hG : Glob w) (AA : Option Addr) (ca : Nat) (AN : Option Addr) (cn : Nat)
  (hA : Kd.C Kd.bool w AA accs.length accs) (hN : Kd.C (Kd.slice 3 (Kd.int .i64)) w AN rows.length (rows.map ints)) (hca : accs.length ≤ ca) (hcn : rows.length ≤ cn) :
  Calls Tryd.prog 84 #[.agg #[.int .i64 (t : Int), .int .i64 (s : Int), .slice AA accs.length ca, .slice AN rows.length cn]] w fun e w' => ∃ vA vN, e = .returned (.agg #[.int .i64 (t : Int), .int .i64 0, vA, vN]) ∧
   Kd.R Kd.bool 4 w' w.heap.size (fun _ => True) vA (tidL (wdOf t) rows accs s (padT t)).1 ∧ Kd.R (Kd.slice 3 (Kd.int .i64)) 87 w' w.heap.size (fun _ => True) vN ((tidL (wdOf t) rows accs s (padT t)).2.map ints) ∧ Below w.heap.size w w' :=
 Td.tidy It.T It.T_size It.Glob It.glob_below It.itoa It.inj t (by omega) s accs rows (wdOf t) (wd_pos _ ht2 ht1) (by have := wd_le _ ht2; omega) hcl hn hs
  (fun W => (impl_widthOf.calls 10 _ _ W (fin_wide _ ht2).1).mono (fun e W' hh => ⟨hh.1, hh.2.below⟩)) (digs t) (fun c _ => digs_len _ _) (fun c _ => digs_lt _ _)
  (fun W c hc => (impl_digitsOf.calls 10 _ _ _ W (fin_digs _ ht2 c (by have := wd_le _ ht2; omega))).mono (fun e W' hh => by obtain ⟨v, h1, h2, h3⟩ := hh; exact ⟨v, h1, h2, h3⟩))
  w hG AA ca AN cn hA hN hca hcn _ _ (made_tidied (Ti.made hcl hs (fun c hc => Nat.lt_of_lt_of_le (fin_pad t ht2 c (by have := wd_le t ht2; omega)) (two_pow ht2).2)))
/-- The tidy machine is right. -/
theorem tid_good {t s : Nat} {accs : List Bool} {rows : List (List Nat)} (ht2 : t < 4) (hs : s < rows.length) (hcl : Closed (wdOf t) rows accs) :
  Closed (wdOf t) (tidL (wdOf t) rows accs s (padT t)).2 (tidL (wdOf t) rows accs s (padT t)).1 ∧ 0 < (tidL (wdOf t) rows accs s (padT t)).2.length ∧ (tidL (wdOf t) rows accs s (padT t)).2.length ≤ 8 * rows.length + 1 := by
 have h := made_good (Ti.made hcl hs (fun c hc => Nat.lt_of_lt_of_le (fin_pad t ht2 c (by have := wd_le t ht2; omega)) (two_pow ht2).2))
 exact ⟨h.1, h.2.1, h.2.2.1⟩
set_option maxHeartbeats 4000000 in
theorem tidied (t s : Nat) (accs : List Bool) (rows : List (List Nat)) (ht1 : 0 < t) (ht2 : t < 4) (hs : s < rows.length) (hcl : Closed (wdOf t) rows accs) (hn : rows.length ≤ 100000) (w : World) (hG : Glob w) (AA : Option Addr) (ca : Nat) (AN : Option Addr) (cn : Nat)
  (hA : Kd.C Kd.bool w AA accs.length accs) (hN : Kd.C (Kd.slice 3 (Kd.int .i64)) w AN rows.length (rows.map ints)) (hca : accs.length ≤ ca) (hcn : rows.length ≤ cn) :
  Calls Tryd.prog 63 #[.agg #[.int .i64 (t : Int), .int .i64 (s : Int), .slice AA accs.length ca, .slice AN rows.length cn]] w (Gives (toldR (t : Int) (tidL (wdOf t) rows accs s (padT t)).1 ((tidL (wdOf t) rows accs s (padT t)).2.map ints)) w) := by
 obtain ⟨hg1, hg2, hg3⟩ := tid_good (s := s) ht2 hs hcl
 have hwd := wd_le t ht2
 have htc := fun W (hb : Below w.heap.size w W) => tidy_calls t s accs rows ht1 ht2 hs hcl hn W (glob_below hG hb) AA ca AN cn (Kd.C_below hA hb) (Kd.C_below hN hb) hca hcn
 obtain ⟨M, hM⟩ : ∃ M, tidL (wdOf t) rows accs s (padT t) = M := ⟨_, rfl⟩
 rw [hM] at hg1 hg2 hg3 htc ⊢
 have hlen := hg1.len
 have hwide := hg1.wide
 clear hM hcl hA hN hG hg1
 have htq := Aside0.mk htc
 have hb0 := below_alloc (below_alloc (Below.refl w.heap.size w) (.cells #[.int .i64 (t : Int), .int .i64 (s : Int), .slice AA accs.length ca, .slice AN rows.length cn] 66)) (.cells #[.int .i64 0, .int .i64 0, .slice none 0 0, .slice none 0 0] 27)
 have bR : ((w.alloc (.cells #[.int .i64 (t : Int), .int .i64 (s : Int), .slice AA accs.length ca, .slice AN rows.length cn] 66)).alloc (.cells #[.int .i64 0, .int .i64 0, .slice none 0 0, .slice none 0 0] 27)).heap[w.heap.size + 1]? = some (.cells #[.int .i64 0, .int .i64 0, .slice none 0 0, .slice none 0 0] 27 (0, 0)) := blk_at _ _ _ (by simp)
 clear htc
 by_cases hc : M.1.length ≤ 150
 ·have hlq := Aside0.mk hlen
  have hwq := Aside0.mk hwide
  have e : toldR (t : Int) M.1 (M.2.map ints) = ⟨(t : Int), 0, M.1, M.2.map ints, 0⟩ := if_pos hc
  rw [e]
  clear e hlen hwide
  go_enter Tryd.func63, Tryd.ntmps63
  go_wp2_with (first
   | (go_at_call 84; go_loud (
     with_reducible refine (htq.out _ hb0).mono ?_
     rintro e w2 ⟨vA, vN, rfl, q2, q3, hb2⟩
     obtain ⟨B2, d2, e2, hd2, hC2⟩ := Kd.R_reads q2
     subst e2
     obtain ⟨B3, d3, e3, hd3, hC3⟩ := Kd.R_reads q3
     rw [List.length_map] at e3 hC3
     subst e3
     have hB2 := below_step hb0 hb2))
   | (go_at_call 95; go_loud (
     have q := Ro.relationOf (t : Int) M.1 (M.2.map ints) (by have := hlq.out; omega) hc (by rw [List.length_map]; have := hlq.out; omega) (by
      intro r hr
      obtain ⟨x, hx, rfl⟩ := List.mem_map.1 hr
      rw [ints_length, hwq.out x hx]
      omega) w2 B2 d2 B3 d3 hC2 (by rw [List.length_map]; exact hC3)
     rw [List.length_map] at q
     with_reducible refine q.mono ?_
     rintro e w3 ⟨A2, c2, A3, c3, rfl, hR, hb3⟩
     have b0 := blk_below (blk_below bR hb2) hb3
     have hB3 := below_step hB2 hb3
     have e0 : w3.cell? ⟨w.heap.size + 1, 0, none⟩ = some (.int .i64 0) := (blk_cell b0 0).trans rfl
     have e1 : w3.cell? ⟨w.heap.size + 1, 1, none⟩ = some (.int .i64 0) := (blk_cell b0 1).trans rfl
     have e2 : w3.cell? ⟨w.heap.size + 1, 2, none⟩ = some (.slice none 0 0) := (blk_cell b0 2).trans rfl
     have e3 : w3.cell? ⟨w.heap.size + 1, 3, none⟩ = some (.slice none 0 0) := (blk_cell b0 3).trans rfl
     have f0 : w3.frozen? ⟨w.heap.size + 1, 0, none⟩ = false := blk_frozen b0 0
     have f1 : w3.frozen? ⟨w.heap.size + 1, 1, none⟩ = false := blk_frozen b0 1
     have f2 : w3.frozen? ⟨w.heap.size + 1, 2, none⟩ = false := blk_frozen b0 2
     have f3 : w3.frozen? ⟨w.heap.size + 1, 3, none⟩ = false := blk_frozen b0 3)))
  have b1 := blk_put b0 0 (.int .i64 (t : Int)) rfl
  have b2 := blk_put b1 1 (.int .i64 0) rfl
  have b3 := blk_put b2 2 (.slice A2 M.1.length c2) rfl
  have b4 := blk_put b3 3 (.slice A3 M.2.length c3) rfl
  refine bodyPost_ret (results_ct rfl _ _ (w.heap.size + 1) 27 #[.int .i64 (t : Int), .int .i64 0, .slice A2 M.1.length c2, .slice A3 M.2.length c3] (0, 0) _ rfl b4 Tryd.underlying27 rfl (by kernel_rfl)) rfl ⟨A2, c2, A3, c3, by rw [List.length_map]; rfl, ⟨?_, ?_⟩, ?_⟩
  ·have hR2 := hR.r2
   exact Kd.R_lower (Kd.R_set (Kd.R_set (Kd.R_set (Kd.R_set hR2 b0 (by decide) 0 _) b1 (by decide) 1 _) b2 (by decide) 2 _) b3 (by decide) 3 _) (Below.size hB2)
  ·have hR3 := hR.r3
   exact Kd.S_lower (Kd.S_set (Kd.S_set (Kd.S_set (Kd.S_set hR3 b0 (by decide) 0 _) b1 (by decide) 1 _) b2 (by decide) 2 _) b3 (by decide) 3 _) (Below.size hB2)
  ·exact (((hB3.setCell (by simp) _).setCell (by simp) _).setCell (by simp) _).setCell (by simp) _
 ·have e : toldR (t : Int) M.1 (M.2.map ints) = bad 3 := if_neg hc
  rw [e]
  clear e hlen hwide
  go_enter Tryd.func63, Tryd.ntmps63
  go_wp2_with (first
   | (go_at_call 84; go_loud (
     with_reducible refine (htq.out _ hb0).mono ?_
     rintro e w2 ⟨vA, vN, rfl, q2, q3, hb2⟩
     obtain ⟨B2, d2, e2, hd2, hC2⟩ := Kd.R_reads q2
     subst e2
     obtain ⟨B3, d3, e3, hd3, hC3⟩ := Kd.R_reads q3
     rw [List.length_map] at e3 hC3
     subst e3
     have hB2 := below_step hb0 hb2))
   | (go_at_call 95; go_loud (
     with_reducible refine (Ro.relationOf_big (t : Int) M.1.length M.2.length (by omega) w2 B2 d2 B3 d3).mono ?_
     rintro e w3 ⟨rfl, hb3⟩
     have b0 := blk_below (blk_below bR hb2) hb3
     have hB3 := below_step hB2 hb3
     have e0 : w3.cell? ⟨w.heap.size + 1, 0, none⟩ = some (.int .i64 0) := (blk_cell b0 0).trans rfl
     have e1 : w3.cell? ⟨w.heap.size + 1, 1, none⟩ = some (.int .i64 0) := (blk_cell b0 1).trans rfl
     have e2 : w3.cell? ⟨w.heap.size + 1, 2, none⟩ = some (.slice none 0 0) := (blk_cell b0 2).trans rfl
     have e3 : w3.cell? ⟨w.heap.size + 1, 3, none⟩ = some (.slice none 0 0) := (blk_cell b0 3).trans rfl
     have f0 : w3.frozen? ⟨w.heap.size + 1, 0, none⟩ = false := blk_frozen b0 0
     have f1 : w3.frozen? ⟨w.heap.size + 1, 1, none⟩ = false := blk_frozen b0 1
     have f2 : w3.frozen? ⟨w.heap.size + 1, 2, none⟩ = false := blk_frozen b0 2
     have f3 : w3.frozen? ⟨w.heap.size + 1, 3, none⟩ = false := blk_frozen b0 3)))
  have b1 := blk_put b0 0 (.int .i64 0) rfl
  have b2 := blk_put b1 1 (.int .i64 0) rfl
  have b3 := blk_put b2 2 (.slice none 0 0) rfl
  have b4 := blk_put b3 3 (.slice none 0 0) rfl
  refine bodyPost_ret (results_ct rfl _ _ (w.heap.size + 1) 27 #[.int .i64 0, .int .i64 0, .slice none 0 0, .slice none 0 0] (0, 0) _ rfl b4 Tryd.underlying27 rfl (by kernel_rfl)) rfl (gives_bad rfl ?_)
  exact (((hB3.setCell (by simp) _).setCell (by simp) _).setCell (by simp) _).setCell (by simp) _
end Go.Proofs.YtnjdkhnepmmfgaaDoor.Tr
namespace Go.Proofs.YtnjdkhnepmmfgaaDoor.Lw
set_option linter.unusedVariables false
set_option linter.unusedSimpArgs false
open Go.RowKit Go.Proofs.YtnjdkhnepmmfgaaDoorW.PrintWords Go.Proofs.YtnjdkhnepmmfgaaDoorW.PrintLast Go.Proofs.YtnjdkhnepmmfgaaDoorW.PrintMore Kp Mg Mk Tdy Tf Tid Ti Tr Lr
/-- What is given is small. -/
structure Fit (R : RRes) : Prop where
 a : R.a.length ≤ 150
 b : R.b.length ≤ 150
 r : ∀ x ∈ R.b, x.length ≤ 26
theorem tot_small {l : List (List Int)} {m : Nat} (h : ∀ x ∈ l, x.length ≤ m) : tot l ≤ m * l.length := by
 induction l with
 | nil => simp [tot]
 | cons r l ih =>
  rw [tot_cons, List.length_cons, Nat.mul_succ]
  have h1 := h r (List.mem_cons_self ..)
  have h2 := ih (fun x hx => h x (List.mem_cons_of_mem _ hx))
  omega
theorem Fit.tot {R : RRes} (h : Fit R) : tot R.b ≤ 3900 := by
 have := tot_small h.r
 have := h.b
 omega
section
variable {w W W' : World} {base : Nat} {ok : Nat → Prop} {A2 A3 : Option Addr} {c2 c3 : Nat} {a : List Bool} {b : List (List Int)}
theorem rel_arg (h : Rel W base ok A2 c2 a A3 c3 b) : Arg W A2 c2 a A3 c3 b := ⟨(Kd.R_reads' h.r2).2.2, (Kd.R_reads' h.r2).2.1, (Kd.S_reads' h.r3).2.2, (Kd.S_reads' h.r3).2.1⟩
theorem rel_lower {base' : Nat} (h : Rel W base ok A2 c2 a A3 c3 b) (hl : base' ≤ base) : Rel W base' ok A2 c2 a A3 c3 b := ⟨Kd.R_lower h.r2 hl, Kd.S_lower h.r3 hl⟩
/-- What was just given, later. -/
theorem rel_old (h : Rel w base (fun _ => True) A2 c2 a A3 c3 b) (hb : Below w.heap.size w W) {base' : Nat} (hl : base' ≤ base) : Rel W base' (fun k => k < w.heap.size) A2 c2 a A3 c3 b :=
 rel_lower ((h.bound.step (fun k hk _ => hb.block k hk.2.2)).mono (fun k hk => hk.2.2)) hl
end
/-- The blocks of one relation in memory. -/
structure Bx where
 t : Int
 s : Int
 A2 : Option Addr
 n2 : Nat
 c2 : Nat
 A3 : Option Addr
 n3 : Nat
 c3 : Nat
def Bx.cells (x : Bx) : Array Value := #[.int .i64 x.t, .int .i64 x.s, .slice x.A2 x.n2 x.c2, .slice x.A3 x.n3 x.c3]
/-- What stands in memory: the argument's box, the awaited relation, the copy that was handed over, the relation that was given. -/
structure St (w : World) (P : Array Value) (gW gX gG : Nat) (bW bX bG : Bx) (wa : List Bool) (wb : List (List Int)) (xa : List Bool) (xb : List (List Int)) (ga : List Bool) (gb : List (List Int)) (W : World) : Prop where
 bel : Below w.heap.size w W
 p : W.heap[w.heap.size]? = some (.cells P 25 (0, 0))
 pw : W.heap[gW]? = some (.cells bW.cells 27 (0, 0))
 px : W.heap[gX]? = some (.cells bX.cells 27 (0, 0))
 pg : W.heap[gG]? = some (.cells bG.cells 27 (0, 0))
 lW : w.heap.size < gW
 lX : gW < gX
 lG : gX < gG
 nW2 : bW.n2 = wa.length
 nW3 : bW.n3 = wb.length
 nX2 : bX.n2 = xa.length
 nX3 : bX.n3 = xb.length
 nG2 : bG.n2 = ga.length
 nG3 : bG.n3 = gb.length
 rW : Rel W (w.heap.size + 1) (fun k => k < gW) bW.A2 bW.c2 wa bW.A3 bW.c3 wb
 rX : Rel W (gW + 1) (fun k => k < gX) bX.A2 bX.c2 xa bX.A3 bX.c3 xb
 rG : Rel W (gX + 1) (fun k => k < gG) bG.A2 bG.c2 ga bG.A3 bG.c3 gb
section
variable {w W W' : World} {P : Array Value} {gW gX gG : Nat} {bW bX bG : Bx} {wa xa ga xa' ga' : List Bool} {wb xb gb xb' gb' : List (List Int)}
theorem St.below (h : St w P gW gX gG bW bX bG wa wb xa xb ga gb W) (hb : Below W.heap.size W W') : St w P gW gX gG bW bX bG wa wb xa xb ga gb W' :=
 { h with bel := below_step h.bel hb, p := blk_below h.p hb, pw := blk_below h.pw hb, px := blk_below h.px hb, pg := blk_below h.pg hb, rW := h.rW.below hb, rX := h.rX.below hb, rG := h.rG.below hb }
theorem St.markX (h : St w P gW gX gG bW bX bG wa wb xa xb ga gb W) (hk : KeepS (gW + 1) W W' (fun k => k < gX)) (hr : Rel W' (gW + 1) (fun k => k < gX) bX.A2 bX.c2 xa' bX.A3 bX.c3 xb') (h2 : xa'.length = xa.length) (h3 : xb'.length = xb.length) : St w P gW gX gG bW bX bG wa wb xa' xb' ga gb W' := by
 have l1 := h.lW
 have l2 := h.lX
 have l3 := h.lG
 exact { h with bel := h.bel.trans (hk.bel.mono (by omega)), p := (hk.bel.block _ (by omega)).trans h.p, pw := (hk.bel.block _ (by omega)).trans h.pw, px := (hk.blk _ (blk_lt h.px) (by omega)).trans h.px, pg := (hk.blk _ (blk_lt h.pg) (by omega)).trans h.pg, nX2 := by rw [h2]; exact h.nX2, nX3 := by rw [h3]; exact h.nX3, rW := h.rW.step (fun k hk' _ => hk.bel.block k (by omega)), rX := hr, rG := h.rG.bound.step (fun k hk' hlt => hk.blk k hlt (by omega)) |>.mono (fun k hk' => hk'.1) }
theorem St.markG (h : St w P gW gX gG bW bX bG wa wb xa xb ga gb W) (hk : KeepS (gX + 1) W W' (fun k => k < gG)) (hr : Rel W' (gX + 1) (fun k => k < gG) bG.A2 bG.c2 ga' bG.A3 bG.c3 gb') (h2 : ga'.length = ga.length) (h3 : gb'.length = gb.length) : St w P gW gX gG bW bX bG wa wb xa xb ga' gb' W' := by
 have l1 := h.lW
 have l2 := h.lX
 have l3 := h.lG
 exact { h with bel := h.bel.trans (hk.bel.mono (by omega)), p := (hk.bel.block _ (by omega)).trans h.p, pw := (hk.bel.block _ (by omega)).trans h.pw, px := (hk.bel.block _ (by omega)).trans h.px, pg := (hk.blk _ (blk_lt h.pg) (by omega)).trans h.pg, nG2 := by rw [h2]; exact h.nG2, nG3 := by rw [h3]; exact h.nG3, rW := h.rW.step (fun k hk' _ => hk.bel.block k (by omega)), rX := h.rX.step (fun k hk' _ => hk.bel.block k (by omega)), rG := hr }
theorem St.leX (h : St w P gW gX gG bW bX bG wa wb xa xb ga gb W) : gW + 1 ≤ W.heap.size := blk_lt h.pw
theorem St.leG (h : St w P gW gX gG bW bX bG wa wb xa xb ga gb W) : gX + 1 ≤ W.heap.size := blk_lt h.px
theorem St.heldB {n : Nat} (h : St w P gW gX gG bW bX bG wa wb xa xb (mB 1 n) gb W) : Kd.C Kd.bool W bG.A2 n (mB 1 n) := by
 have := (rel_arg h.rG).r2
 rwa [mB_length] at this
end
set_option maxHeartbeats 1000000 in
theorem mark1 {T : Nat} (t s : Int) (A2 : Option Addr) (c2 : Nat) (a : List Bool) (A3 : Option Addr) (c3 : Nat) (b : List (List Int)) (w : World) (base : Nat) (ok : Nat → Prop) (hle : base ≤ w.heap.size) (h : Rel w base ok A2 c2 a A3 c3 b) (hl : b.length ≤ 2000000) (hk : 1 + a.length + tot b ≤ 1000000000) (hT : 1 + a.length + tot b = T) :
  Calls Tryd.prog 11 #[.agg #[.int .i64 t, .int .i64 s, .slice A2 a.length c2, .slice A3 b.length c3], .int .i64 1] w fun e w' => e = .returned (.int .i64 (T : Int)) ∧ Rel w' base ok A2 c2 (mB 1 a.length) A3 c3 (mR (1 + a.length) b) ∧ KeepS base w w' ok := by
 subst hT
 exact markRel 1 t s A2 c2 a A3 c3 b w base ok hle h hl hk
end Go.Proofs.YtnjdkhnepmmfgaaDoor.Lw
namespace Go.Proofs.YtnjdkhnepmmfgaaDoor.Lws
set_option linter.unusedVariables false
set_option linter.unusedSimpArgs false
open Go.RowKit Go.Proofs.YtnjdkhnepmmfgaaDoorW.PrintWords Go.Proofs.YtnjdkhnepmmfgaaDoorW.PrintLast Go.Proofs.YtnjdkhnepmmfgaaDoorW.PrintMore Kp Mg Mk Mk2 Tw Sb Sbf Lr Lw Il Sco
structure FitS (R : SRes) : Prop where
 a : R.a.length ≤ 1000000
 n : R.n.length ≤ 1000000
 o : R.o.length ≤ 1000000
theorem FitS.la {R : SRes} (h : FitS R) : R.a.length ≤ 1048576 := by have := h.a; omega
theorem FitS.ln {R : SRes} (h : FitS R) : R.n.length ≤ 2000000 := by have := h.n; omega
theorem FitS.lo {R : SRes} (h : FitS R) : R.o.length ≤ 2000000 := by have := h.o; omega
theorem fitS_bad (c : Int) : FitS (badS c) := ⟨by simp [badS], by simp [badS], by simp [badS]⟩
/-- The parts of a scribe have one length. -/
theorem scr_lens {lv : Nat → Bool} {rows : List (List Nat)} : ∀ (f i : Nat) (li : List Nat) (nx : List (List Int)) (ot : List (List ByteArray)) (s : Sb.Sc), nx.length = i → ot.length = i → i ≤ li.length → scr lv rows f i li nx ot = some (some s) → s.2.1.length ≤ s.1.length ∧ s.2.2.length ≤ s.1.length
 | 0, i, li, nx, ot, s, _, _, _, h => by simp [scr] at h
 | f + 1, i, li, nx, ot, s, h1, h2, h3, h => by
  unfold scr at h
  by_cases hi : i < li.length
  ·rw [dif_pos hi] at h
   cases hr : rowT lv (rows.getD li[i] []) li with
   | none => rw [hr] at h; cases h
   | some s1 =>
    rw [hr] at h
    have hle : li.length ≤ s1.1.length := rowT_le hr
    exact scr_lens f (i + 1) s1.1 _ _ s (by simp [h1]) (by simp [h2]) (by omega) h
  ·rw [dif_neg hi] at h
   cases h
   exact ⟨by show nx.length ≤ li.length; omega, by show ot.length ≤ li.length; omega⟩
where
 pairF_le {lv : Nat → Bool} {r : List Nat} {a b : Nat} {s s' : Sb.St} (h : pairF lv r a b s = some s') : s.1.length ≤ s'.1.length := by
  unfold pairF at h
  split at h
  ·cases h; exact Nat.le_refl _
  ·split at h
   ·cases h; exact Nat.le_refl _
   ·split at h
    ·cases h
    ·split at h
     ·cases h; exact Nat.le_refl _
     ·cases h; simp
 runB_le {lv : Nat → Bool} {r : List Nat} {a : Nat} : ∀ (bs : List Nat) (s s' : Sb.St), runB lv r a bs s = some s' → s.1.length ≤ s'.1.length
  | [], s, s', h => by cases h; exact Nat.le_refl _
  | b :: bs, s, s', h => by
   unfold runB at h
   obtain ⟨s1, h1, h2⟩ := Option.bind_eq_some_iff.1 h
   exact Nat.le_trans (pairF_le h1) (runB_le bs s1 s' h2)
 runA_le {lv : Nat → Bool} {r : List Nat} : ∀ (l : List Nat) (s s' : Sb.St), runA lv r l s = some s' → s.1.length ≤ s'.1.length
  | [], s, s', h => by cases h; exact Nat.le_refl _
  | a :: l, s, s', h => by
   unfold runA at h
   obtain ⟨s1, h1, h2⟩ := Option.bind_eq_some_iff.1 h
   exact Nat.le_trans (runB_le _ s s1 h1) (runA_le l s1 s' h2)
 rowT_le {lv : Nat → Bool} {r li : List Nat} {s' : Sb.St} (h : rowT lv r li = some s') : li.length ≤ s'.1.length := runA_le _ _ s' h
theorem fit_sco (t s : Int) (a : List Bool) (b : List (List Int)) : FitS (scoR t s a b) := by
 unfold scoR
 by_cases h : twoC t s a b = 0
 ·rw [if_pos h]
  have h1 := scrR_small h
  split
  ·have h2 : (scrR t s a b).2.1.length ≤ 1000000 ∧ (scrR t s a b).2.2.1.length ≤ 1000000 := by
    unfold scrR at h1 ⊢
    unfold scribeF at h1 ⊢
    split
    ·exact ⟨by simp, by simp⟩
    ·rename_i hl
     rw [if_neg hl] at h1
     cases hs : (scr (Go.Proofs.YtnjdkhnepmmfgaaDoor.Lv.live (Tid.tidM t s a b).2 (Tid.tidM t s a b).1) (Tid.tidM t s a b).2 ((Tid.tidM t s a b).2.length + 1) 0 [0] [] []) with
     | none => exact ⟨Nat.zero_le _, Nat.zero_le _⟩
     | some x =>
      rw [hs] at h1
      cases x with
      | none => exact ⟨Nat.zero_le _, Nat.zero_le _⟩
      | some sc =>
       obtain ⟨e1, e2⟩ := scr_lens _ 0 [0] [] [] sc rfl rfl (Nat.zero_le _) hs
       have h3 : (sc.1.map (acF (Tid.tidM t s a b).1)).length ≤ 150 := h1
       rw [List.length_map] at h3
       exact ⟨by show sc.2.1.length ≤ _; omega, by show sc.2.2.length ≤ _; omega⟩
   exact ⟨by show (scrR t s a b).1.length ≤ _; omega, h2.1, h2.2⟩
  ·exact fitS_bad _
 ·rw [if_neg h]
  exact fitS_bad _
structure Bs where
 A1 : Option Addr
 c1 : Nat
 A2 : Option Addr
 c2 : Nat
 A3 : Option Addr
 c3 : Nat
def Bs.cells (x : Bs) (R : SRes) : Array Value := #[.slice x.A1 R.a.length x.c1, .slice x.A2 R.n.length x.c2, .slice x.A3 R.o.length x.c3]
section
variable {w W : World} {base base' : Nat} {ok : Nat → Prop} {A1 A2 A3 : Option Addr} {c1 c2 c3 : Nat} {a : List Bool} {n : List (List Int)} {o : List (List ByteArray)}
/-- What was just given, later. -/
theorem si_old (h : SI w base (fun _ => True) A1 c1 a A2 c2 n A3 c3 o) (hb : Below w.heap.size w W) (hl : base' ≤ base) : SI W base' (fun k => k < w.heap.size) A1 c1 a A2 c2 n A3 c3 o :=
 ((h.bound.step (fun k hk _ => hb.block k hk.2.2)).mono (fun k hk => hk.2.2)).lower hl
theorem si_flat (h : SI w base ok A1 c1 a A2 c2 n A3 c3 o) : ∃ v2 v3, Mk2.Sc w base ok A1 c1 a A2 n.length c2 v2 A3 o.length c3 v3 := by
 obtain ⟨i2, h2⟩ := Kd.R_own h.r2
 obtain ⟨i3, h3⟩ := Kd.R_own h.r3
 exact ⟨i2, i3, h.r1, h2, h3, h.r2.1, h.r3.1⟩
end
/-- What stands in memory: the argument's box, the awaited scribe, the copy that was handed over, the scribe that was given (q: it bears no marks yet). -/
structure StS (w : World) (P : Array Value) (R : SRes) (gW gX gG : Nat) (bW : Bs) (bX : Bx) (bG : Bs) (xa : List Bool) (xb : List (List Int)) (q : Prop) (ga : List Bool) (g2 g3 : List Value) (W : World) : Prop where
 bel : Below w.heap.size w W
 p : W.heap[w.heap.size]? = some (.cells P 25 (0, 0))
 pw : W.heap[gW]? = some (.cells (bW.cells R) 37 (0, 0))
 px : W.heap[gX]? = some (.cells bX.cells 27 (0, 0))
 pg : W.heap[gG]? = some (.cells (bG.cells R) 37 (0, 0))
 lW : w.heap.size < gW
 lX : gW < gX
 lG : gX < gG
 nX2 : bX.n2 = xa.length
 nX3 : bX.n3 = xb.length
 nG : R.a.length = ga.length
 rW : SI W (w.heap.size + 1) (fun k => k < gW) bW.A1 bW.c1 R.a bW.A2 bW.c2 R.n bW.A3 bW.c3 R.o
 rX : Rel W (gW + 1) (fun k => k < gX) bX.A2 bX.c2 xa bX.A3 bX.c3 xb
 rI : q → SI W (gX + 1) (fun k => k < gG) bG.A1 bG.c1 R.a bG.A2 bG.c2 R.n bG.A3 bG.c3 R.o
 rF : Mk2.Sc W (gX + 1) (fun k => k < gG) bG.A1 bG.c1 ga bG.A2 R.n.length bG.c2 g2 bG.A3 R.o.length bG.c3 g3
section
variable {w W W' : World} {P : Array Value} {R : SRes} {gW gX gG : Nat} {bW bG : Bs} {bX : Bx} {xa ga xa' ga' : List Bool} {xb xb' : List (List Int)} {q : Prop} {g2 g3 g2' g3' : List Value}
theorem StS.below (h : StS w P R gW gX gG bW bX bG xa xb q ga g2 g3 W) (hb : Below W.heap.size W W') : StS w P R gW gX gG bW bX bG xa xb q ga g2 g3 W' :=
 { h with bel := below_step h.bel hb, p := blk_below h.p hb, pw := blk_below h.pw hb, px := blk_below h.px hb, pg := blk_below h.pg hb, rW := h.rW.below hb, rX := h.rX.below hb, rI := fun k => (h.rI k).below hb, rF := h.rF.below hb }
theorem StS.markX (h : StS w P R gW gX gG bW bX bG xa xb q ga g2 g3 W) (hk : KeepS (gW + 1) W W' (fun k => k < gX)) (hr : Rel W' (gW + 1) (fun k => k < gX) bX.A2 bX.c2 xa' bX.A3 bX.c3 xb') (h2 : xa'.length = xa.length) (h3 : xb'.length = xb.length) : StS w P R gW gX gG bW bX bG xa' xb' q ga g2 g3 W' := by
 have l1 := h.lW
 have l2 := h.lX
 have l3 := h.lG
 exact { h with bel := h.bel.trans (hk.bel.mono (by omega)), p := (hk.bel.block _ (by omega)).trans h.p, pw := (hk.bel.block _ (by omega)).trans h.pw, px := (hk.blk _ (blk_lt h.px) (by omega)).trans h.px, pg := (hk.blk _ (blk_lt h.pg) (by omega)).trans h.pg, nX2 := by rw [h2]; exact h.nX2, nX3 := by rw [h3]; exact h.nX3, rW := h.rW.step (fun k hk' _ => hk.bel.block k (by omega)), rX := hr, rI := fun z => ((h.rI z).bound.step (fun k hk' hlt => hk.blk k hlt (by omega))).mono (fun k hk' => hk'.1), rF := (h.rF.bound.step (fun k hk' hlt => hk.blk k hlt (by omega))).mono (fun k hk' => hk'.1) }
theorem StS.markG (h : StS w P R gW gX gG bW bX bG xa xb q ga g2 g3 W) (hk : KeepS (gX + 1) W W' (fun k => k < gG)) (hr : Mk2.Sc W' (gX + 1) (fun k => k < gG) bG.A1 bG.c1 ga' bG.A2 R.n.length bG.c2 g2' bG.A3 R.o.length bG.c3 g3') (h2 : ga'.length = ga.length) : StS w P R gW gX gG bW bX bG xa xb False ga' g2' g3' W' := by
 have l1 := h.lW
 have l2 := h.lX
 have l3 := h.lG
 exact { h with bel := h.bel.trans (hk.bel.mono (by omega)), p := (hk.bel.block _ (by omega)).trans h.p, pw := (hk.bel.block _ (by omega)).trans h.pw, px := (hk.bel.block _ (by omega)).trans h.px, pg := (hk.blk _ (blk_lt h.pg) (by omega)).trans h.pg, nG := by rw [h2]; exact h.nG, rW := h.rW.step (fun k hk' _ => hk.bel.block k (by omega)), rX := h.rX.step (fun k hk' _ => hk.bel.block k (by omega)), rI := fun z => z.elim, rF := hr }
theorem StS.leX (h : StS w P R gW gX gG bW bX bG xa xb q ga g2 g3 W) : gW + 1 ≤ W.heap.size := blk_lt h.pw
theorem StS.leG (h : StS w P R gW gX gG bW bX bG xa xb q ga g2 g3 W) : gX + 1 ≤ W.heap.size := blk_lt h.px
theorem StS.heldB {n : Nat} (h : StS w P R gW gX gG bW bX bG xa xb q (mB 1 n) g2 g3 W) : Kd.C Kd.bool W bG.A1 n (mB 1 n) := by
 have := (Kd.R_reads' h.rF.r1).2.2
 rwa [mB_length] at this
end
end Go.Proofs.YtnjdkhnepmmfgaaDoor.Lws
namespace Go.Proofs.YtnjdkhnepmmfgaaDoor.LwSc
set_option linter.unusedVariables false
set_option linter.unusedSimpArgs false
open Go.RowKit Go.Proofs.YtnjdkhnepmmfgaaDoorW.PrintWords Go.Proofs.YtnjdkhnepmmfgaaDoorW.PrintLast Go.Proofs.YtnjdkhnepmmfgaaDoorW.PrintMore Kp Mg Mk Tdy Tf Tid Ti Tr PT3 PureRel Lr Lw Mk2 Sco Eqs Lws
set_option maxHeartbeats 8000000 in
set_option maxRecDepth 100000 in
theorem law_calls (t s : Int) (A2 : Option Addr) (c2 : Nat) (a : List Bool) (A3 : Option Addr) (c3 : Nat) (b : List (List Int)) (w : World) (hA : Arg w A2 c2 a A3 c3 b) (hG : Glob w) (la : a.length ≤ 9223372036854775807) (lb : b.length ≤ 9223372036854775807) (lr : ∀ r ∈ b, r.length ≤ 9223372036854775807) :
  Calls Tryd.prog 4 #[.agg #[.int .i64 t, .int .i64 s, .slice A2 a.length c2, .slice A3 b.length c3]] w fun e w' => e = .returned (.bool true) ∧ Below w.heap.size w w' := by
 obtain ⟨z, hz, hzl⟩ := szRel_ev t s a b 1048576 (by omega) (by omega) la lb lr
 obtain ⟨kz, hkz⟩ := hz.rounds
 have hsz := Aside0.mk hkz
 have hb1 : Below w.heap.size w (w.alloc (.cells #[.int .i64 t, .int .i64 s, .slice A2 a.length c2, .slice A3 b.length c3] 25)) := below_alloc (Below.refl _ _) _
 have hP1 := blk_new w (.cells #[.int .i64 t, .int .i64 s, .slice A2 a.length c2, .slice A3 b.length c3] 25)
 have hG2 := Aside0.mk hG
 clear hz hkz hG
 by_cases h0 : z < 0
 ·have z1 : (z < 0) = True := eq_true h0
  clear h0
  go_enter Tryd.func4, Tryd.ntmps4
  go_wp2_with (go_at_call 6; go_loud (
   with_reducible refine (laws_szRelation.calls kz t s A2 c2 a A3 c3 b 1048576 z _ (hA.below hb1).r2 hA.l2 (hA.below hb1).r3 hA.l3 hsz.out).mono ?_
   rintro e w2 ⟨rfl, hb2⟩
   have hB2 := below_step hb1 hb2))
  go_ret
  exact ⟨rfl, hB2⟩
 ·obtain ⟨x1, x2', x3', x4⟩ := hzl (by omega)
  have hS : Small a b := ⟨x1, x2', x3'⟩
  obtain ⟨kt, hkt⟩ := (toRel_ev t s a b hS.la hS.lb hS.lr).rounds
  have htr := Aside0.mk hkt
  have z1 : (z < 0) = False := eq_false h0
  obtain ⟨RR, hRR⟩ : ∃ RR, scoR t s a b = RR := ⟨_, rfl⟩
  have hRq := Aside0.mk hRR
  have hF : Aside0 (FitS RR) := ⟨by rw [← hRR]; exact fit_sco t s a b⟩
  obtain ⟨TX, hTX⟩ : ∃ T, 1 + a.length + tot b = T := ⟨_, rfl⟩
  obtain ⟨T2, hT2⟩ : ∃ T, 1 + RR.a.length = T := ⟨_, rfl⟩
  obtain ⟨T3, hT3⟩ : ∃ T, T2 + 2 * RR.n.length = T := ⟨_, rfl⟩
  obtain ⟨TG, hTG⟩ : ∃ T, T3 + 2 * RR.o.length = T := ⟨_, rfl⟩
  have hT2q := Aside0.mk hT2
  have hT3q := Aside0.mk hT3
  have hTXq := Aside0.mk hTX
  have hTGq := Aside0.mk hTG
  have hXl : Aside0 (1 + a.length + tot b ≤ 1000000000) := ⟨by unfold tot; omega⟩
  have hGl : Aside0 (TG ≤ 1000000000) := ⟨by have := hF.out.a; have := hF.out.n; have := hF.out.o; omega⟩
  have n0 : ((TX : Int) < 0) = False := eq_false (by omega)
  have n1 : ((TG : Int) < 0) = False := eq_false (by omega)
  have n2 : ((TG : Int) != (TG : Int)) = false := by simp
  have n3 : (RR.c != RR.c) = false := by simp
  clear h0 hkt hRR hzl hTX hTG hT2 hT3 x1 x2' x3' x4
  go_enter Tryd.func4, Tryd.ntmps4
  go_wp2_with (first
   | (go_at_call 6; go_loud (
     with_reducible refine (laws_szRelation.calls kz t s A2 c2 a A3 c3 b 1048576 z _ (hA.below hb1).r2 hA.l2 (hA.below hb1).r3 hA.l3 hsz.out).mono ?_
     rintro e w2 ⟨rfl, hb2⟩
     have hP2 := blk_below hP1 hb2
     have hB2 := below_step hb1 hb2
     have m2_0 : w2.cell? ⟨w.heap.size, 0, none⟩ = some (.int .i64 t) := (blk_cell hP2 0).trans rfl
     have m2_1 : w2.cell? ⟨w.heap.size, 1, none⟩ = some (.int .i64 s) := (blk_cell hP2 1).trans rfl
     have m2_2 : w2.cell? ⟨w.heap.size, 2, none⟩ = some (.slice A2 a.length c2) := (blk_cell hP2 2).trans rfl
     have m2_3 : w2.cell? ⟨w.heap.size, 3, none⟩ = some (.slice A3 b.length c3) := (blk_cell hP2 3).trans rfl))
   | (go_at_call 8; (with_reducible refine (laws_toRelation.calls kt t s A2 c2 a A3 c3 b _ _ _ _ w2 (hA.below hB2).r2 hA.l2 (hA.below hB2).r3 hA.l3 htr.out).mono ?_); go_loud (
     rintro e w3 ⟨q2, q3, rfl, r2, r3, hb3⟩
     obtain ⟨B2, d2, e2⟩ := Kd.R_slice r2
     subst e2
     obtain ⟨B3, d3, e3⟩ := Kd.S_slice r3
     subst e3
     have hB3 := below_step hB2 hb3
     have hP3 := blk_below hP2 hb3
     have hA3 : Arg w3 B2 d2 a B3 d3 b := ⟨(Kd.R_reads' r2).2.2, (Kd.R_reads' r2).2.1, (Kd.S_reads' r3).2.2, (Kd.S_reads' r3).2.1⟩
     clear r2 r3))
   | (go_at_call 13; go_loud (
     have q := spec_sco t s B2 d2 a B3 d3 b _ hA3 hS (glob_below hG2.out hB3)
     rw [hRq.out] at q
     with_reducible refine q.mono ?_
     clear q
     rintro e w4 ⟨W1, v1, W2, v2, W3, v3, rfl, hRW, hb4⟩
     have hB4 := below_step hB3 hb4
     have hP4 := blk_alloc (blk_below hP3 hb4) (.cells #[.slice W1 RR.a.length v1, .slice W2 RR.n.length v2, .slice W3 RR.o.length v3] 37)
     have hb4a : Below w4.heap.size w4 (w4.alloc (.cells #[.slice W1 RR.a.length v1, .slice W2 RR.n.length v2, .slice W3 RR.o.length v3] 37)) := below_alloc (Below.refl _ _) _
     have hW4 := blk_new w4 (.cells #[.slice W1 RR.a.length v1, .slice W2 RR.n.length v2, .slice W3 RR.o.length v3] 37)
     have hB4a := below_step hB4 hb4a
     have m4_0 : (w4.alloc (.cells #[.slice W1 RR.a.length v1, .slice W2 RR.n.length v2, .slice W3 RR.o.length v3] 37)).cell? ⟨w.heap.size, 0, none⟩ = some (.int .i64 t) := (blk_cell hP4 0).trans rfl
     have m4_1 : (w4.alloc (.cells #[.slice W1 RR.a.length v1, .slice W2 RR.n.length v2, .slice W3 RR.o.length v3] 37)).cell? ⟨w.heap.size, 1, none⟩ = some (.int .i64 s) := (blk_cell hP4 1).trans rfl
     have m4_2 : (w4.alloc (.cells #[.slice W1 RR.a.length v1, .slice W2 RR.n.length v2, .slice W3 RR.o.length v3] 37)).cell? ⟨w.heap.size, 2, none⟩ = some (.slice A2 a.length c2) := (blk_cell hP4 2).trans rfl
     have m4_3 : (w4.alloc (.cells #[.slice W1 RR.a.length v1, .slice W2 RR.n.length v2, .slice W3 RR.o.length v3] 37)).cell? ⟨w.heap.size, 3, none⟩ = some (.slice A3 b.length c3) := (blk_cell hP4 3).trans rfl))
   | (go_at_call 8; (with_reducible refine (laws_toRelation.calls kt t s A2 c2 a A3 c3 b _ _ _ _ (w4.alloc (.cells #[.slice W1 RR.a.length v1, .slice W2 RR.n.length v2, .slice W3 RR.o.length v3] 37)) (hA.below hB4a).r2 hA.l2 (hA.below hB4a).r3 hA.l3 htr.out).mono ?_); go_loud (
     rintro e w5 ⟨q2, q3, rfl, r2, r3, hb5⟩
     obtain ⟨X2, x2, e2⟩ := Kd.R_slice r2
     subst e2
     obtain ⟨X3, x3, e3⟩ := Kd.S_slice r3
     subst e3
     have hRX : Rel w5 (w4.alloc (.cells #[.slice W1 RR.a.length v1, .slice W2 RR.n.length v2, .slice W3 RR.o.length v3] 37)).heap.size (fun _ => True) X2 x2 a X3 x3 b := ⟨r2, r3⟩
     have hb5a : Below w5.heap.size w5 (w5.alloc (.cells #[.int .i64 t, .int .i64 s, .slice X2 a.length x2, .slice X3 b.length x3] 27)) := below_alloc (Below.refl _ _) _
     have hX5 := blk_new w5 (.cells #[.int .i64 t, .int .i64 s, .slice X2 a.length x2, .slice X3 b.length x3] 27)
     have hW5 := blk_below (blk_below hW4 hb5) hb5a
     have hP5 := blk_below (blk_below hP4 hb5) hb5a
     have hB5 := below_step (below_step hB4a hb5) hb5a
     have hA5 : Arg (w5.alloc (.cells #[.int .i64 t, .int .i64 s, .slice X2 a.length x2, .slice X3 b.length x3] 27)) X2 x2 a X3 x3 b := (rel_arg hRX).below hb5a
     clear r2 r3))
   | (go_at_call 14; (
     have q := impl_sco t s X2 x2 a X3 x3 b _ hA5 hS (glob_below hG2.out hB5)
     rw [hRq.out] at q
     with_reducible refine q.mono ?_
     clear q); go_loud (
     rintro e w7 ⟨G1, y1, G2, y2, G3, y3, rfl, hRG, hb7⟩
     have hb7a : Below w7.heap.size w7 (w7.alloc (.cells #[.slice G1 RR.a.length y1, .slice G2 RR.n.length y2, .slice G3 RR.o.length y3] 37)) := below_alloc (Below.refl _ _) _
     have hG7 := blk_new w7 (.cells #[.slice G1 RR.a.length y1, .slice G2 RR.n.length y2, .slice G3 RR.o.length y3] 37)
     have s4 : w4.heap.size + 1 ≤ w5.heap.size := by have := hb5.size; simpa using this
     have s5 : w5.heap.size + 1 ≤ w7.heap.size := by have := hb7.size; simpa using this
     obtain ⟨u2, u3, o7⟩ := si_flat (si_old hRG hb7a (base' := w5.heap.size + 1) (by simp))
     have hst7 : StS w #[.int .i64 t, .int .i64 s, .slice A2 a.length c2, .slice A3 b.length c3] RR w4.heap.size w5.heap.size w7.heap.size ⟨W1, v1, W2, v2, W3, v3⟩ ⟨t, s, X2, a.length, x2, X3, b.length, x3⟩ ⟨G1, y1, G2, y2, G3, y3⟩ a b True RR.a u2 u3 (w7.alloc (.cells #[.slice G1 RR.a.length y1, .slice G2 RR.n.length y2, .slice G3 RR.o.length y3] 37)) :=
      { bel := below_step (below_step hB5 hb7) hb7a, p := blk_below (blk_below hP5 hb7) hb7a, pw := blk_below (blk_below hW5 hb7) hb7a, px := blk_below (blk_below hX5 hb7) hb7a, pg := hG7, lW := (by have := blk_lt hP3; have := hb4.size; omega), lX := (by omega), lG := (by omega), nX2 := rfl, nX3 := rfl, nG := rfl, rW := si_old hRW ((((hb4a.trans (hb5.mono (by simp))).trans (hb5a.mono (by omega))).trans (hb7.mono (by simp <;> omega))).trans (hb7a.mono (by omega))) (blk_lt hP3), rX := (rel_old hRX (hb5a.trans ((hb7.mono (by simp)).trans (hb7a.mono (by omega)))) (by simp)), rI := fun _ => (si_old hRG hb7a (by simp)), rF := o7 }
     clear hRW hRX hRG
     have m7_0 : (w7.alloc (.cells #[.slice G1 RR.a.length y1, .slice G2 RR.n.length y2, .slice G3 RR.o.length y3] 37)).cell? ⟨w4.heap.size, 0, none⟩ = some (.slice W1 RR.a.length v1) := (blk_cell hst7.pw 0).trans rfl
     have m7_1 : (w7.alloc (.cells #[.slice G1 RR.a.length y1, .slice G2 RR.n.length y2, .slice G3 RR.o.length y3] 37)).cell? ⟨w4.heap.size, 1, none⟩ = some (.slice W2 RR.n.length v2) := (blk_cell hst7.pw 1).trans rfl
     have m7_2 : (w7.alloc (.cells #[.slice G1 RR.a.length y1, .slice G2 RR.n.length y2, .slice G3 RR.o.length y3] 37)).cell? ⟨w4.heap.size, 2, none⟩ = some (.slice W3 RR.o.length v3) := (blk_cell hst7.pw 2).trans rfl))
   | (go_at_call 15; (with_reducible refine (eqSc RR.a RR.n RR.o G1 y1 G2 y2 G3 y3 W1 v1 W2 v2 W3 v3 (w7.alloc (.cells #[.slice G1 RR.a.length y1, .slice G2 RR.n.length y2, .slice G3 RR.o.length y3] 37)) _ _ _ _ (hst7.rI trivial) hst7.rW hF.out.la hF.out.ln hF.out.lo).mono ?_); go_loud (
     rintro e w9 ⟨rfl, hb9⟩
     have hst9 := hst7.below hb9)))
  clear hst7
  obtain ⟨gW, hgW⟩ : ∃ g, w4.heap.size = g := ⟨_, rfl⟩
  obtain ⟨gX, hgX⟩ : ∃ g, w5.heap.size = g := ⟨_, rfl⟩
  obtain ⟨gG, hgG⟩ : ∃ g, w7.heap.size = g := ⟨_, rfl⟩
  rw [hgW, hgX, hgG] at hst9
  simp only [hgW, hgX, hgG]
  clear hgW hgX hgG hb1 hP1 hP2 hB2 hb2 hb3 hB3 hP3 hA3 hb4 hB4 hP4 hb4a hW4 hB4a hb5 hb5a hX5 hW5 hP5 hB5 hA5 hb7 hb7a hG7 s4 s5 hb9 m2_0 m2_1 m2_2 m2_3 m4_0 m4_1 m4_2 m4_3 m7_0 m7_1 m7_2
  have hst9d := hst9.below (below_drew1 (Below.refl _ _))
  refine start_ (n := 5) (S := (fun w' => w'.cell? ⟨gX, 0, none⟩ = some (.int .i64 t) ∧ w'.cell? ⟨gX, 1, none⟩ = some (.int .i64 s) ∧ w'.cell? ⟨gX, 2, none⟩ = some (.slice X2 a.length x2) ∧ w'.cell? ⟨gX, 3, none⟩ = some (.slice X3 b.length x3) ∧ w'.cell? ⟨w.heap.size, 0, none⟩ = some (.int .i64 t) ∧ w'.cell? ⟨w.heap.size, 1, none⟩ = some (.int .i64 s) ∧ w'.cell? ⟨w.heap.size, 2, none⟩ = some (.slice A2 a.length c2) ∧ w'.cell? ⟨w.heap.size, 3, none⟩ = some (.slice A3 b.length c3))) (ds := []) (.replicate 5 false) (by kernel_rfl) rfl rfl (⟨(blk_cell hst9d.px 0).trans rfl, (blk_cell hst9d.px 1).trans rfl, (blk_cell hst9d.px 2).trans rfl, (blk_cell hst9d.px 3).trans rfl, (blk_cell hst9d.p 0).trans rfl, (blk_cell hst9d.p 1).trans rfl, (blk_cell hst9d.p 2).trans rfl, (blk_cell hst9d.p 3).trans rfl⟩) (fun hHeld => ?_)
  refine take_ (i := 0) (N := some 41) (v := ?_) (a' := ?_) (zb 5 1) rfl rfl (by kernel_rfl) (fun _ _ _ h => h) (Or.inl ⟨by rfl, ?_⟩) hHeld ?_ ?_
  rotate_left
  ·rintro w' ⟨s0, s1, s2, s3, s4, s5, s6, s7⟩
   go_simp
   with_reducible rfl
  rotate_left
  ·simp only [Act.put, Za, Zb, Zc, i64_w, i32_w]
   rfl
  refine take_ (i := 1) (N := some 42) (v := ?_) (a' := ?_) (zb 5 3) rfl rfl (by kernel_rfl) (fun _ _ _ h => h) (Or.inl ⟨by rfl, ?_⟩) hHeld ?_ ?_
  rotate_left
  ·rintro w' ⟨s0, s1, s2, s3, s4, s5, s6, s7⟩
   go_simp
   with_reducible rfl
  rotate_left
  ·simp only [Act.put, Za, Zb, Zc, i64_w, i32_w]
   rfl
  refine one_ (i := 2) (N := some 43) (zb 5 7) rfl rfl (by kernel_rfl) (by decide) (fun K hK => ?_)
  refine goes_ Tryd.func8 (by kernel_rfl) rfl #[.agg #[.int .i64 t, .int .i64 s, .slice A2 a.length c2, .slice A3 b.length c3]] (by rfl) rfl rfl (by (try simp only [List.map_toArray, List.map_cons, List.map_nil]); first | done | rfl) ?_
  with_reducible refine (laws_toRelation.calls kt t s A2 c2 a A3 c3 b _ _ _ _ _ (hA.below hst9d.bel).r2 hA.l2 (hA.below hst9d.bel).r3 hA.l3 htr.out).mono ?_
  rintro e w10 ⟨q2, q3, rfl, r2, r3, hb10⟩
  obtain ⟨Y2, u2, e2⟩ := Kd.R_slice r2
  subst e2
  obtain ⟨Y3, u3, e3⟩ := Kd.S_slice r3
  subst e3
  refine ⟨_, rfl, ?_⟩
  have hst10 := hst9d.below hb10
  refine hK.out _ _ ⟨(blk_cell hst10.px 0).trans rfl, (blk_cell hst10.px 1).trans rfl, (blk_cell hst10.px 2).trans rfl, (blk_cell hst10.px 3).trans rfl, (blk_cell hst10.p 0).trans rfl, (blk_cell hst10.p 1).trans rfl, (blk_cell hst10.p 2).trans rfl, (blk_cell hst10.p 3).trans rfl⟩ (fun hHeld => ?_)
  clear hK K
  refine norm_ (a' := ?_) ?_ ?_
  rotate_left
  ·show Act.put _ (some 43) _ = _
   simp only [Act.put, Za, Zb, Zc, i64_w, i32_w]
   rfl
  refine one_ (i := 3) (N := some 44) (zb 5 15) rfl rfl (by kernel_rfl) (by decide) (fun K hK => ?_)
  refine goes_ Tryd.func10 (by kernel_rfl) rfl #[.agg #[.int .i64 t, .int .i64 s, .slice X2 a.length x2, .slice X3 b.length x3], .agg #[.int .i64 t, .int .i64 s, .slice Y2 a.length u2, .slice Y3 b.length u3]] (by rfl) rfl rfl (by (try simp only [List.map_toArray, List.map_cons, List.map_nil]); first | done | rfl) ?_
  with_reducible refine (eq_same t s X2 x2 a X3 x3 b Y2 u2 Y3 u3 _ (rel_arg hst10.rX) ⟨(Kd.R_reads' r2).2.2, (Kd.R_reads' r2).2.1, (Kd.S_reads' r3).2.2, (Kd.S_reads' r3).2.1⟩ hS).mono ?_
  rintro e w11 ⟨rfl, hb11⟩
  refine ⟨_, rfl, ?_⟩
  have hst11 := hst10.below hb11
  clear r2 r3
  refine hK.out _ _ ⟨(blk_cell hst11.px 0).trans rfl, (blk_cell hst11.px 1).trans rfl, (blk_cell hst11.px 2).trans rfl, (blk_cell hst11.px 3).trans rfl, (blk_cell hst11.p 0).trans rfl, (blk_cell hst11.p 1).trans rfl, (blk_cell hst11.p 2).trans rfl, (blk_cell hst11.p 3).trans rfl⟩ (fun hHeld => ?_)
  clear hK K
  refine norm_ (a' := ?_) ?_ ?_
  rotate_left
  ·show Act.put _ (some 44) _ = _
   simp only [Act.put, Za, Zb, Zc, i64_w, i32_w]
   rfl
  refine pure_ (i := 4) (N := some 45) (v := ?_) (a' := ?_) (zb 5 31) rfl rfl (by kernel_rfl) (fun _ _ _ h => h) (Or.inl ⟨by rfl, ?_⟩) ?_ ?_
  rotate_left
  ·intro w'
   go_simp
   with_reducible rfl
  rotate_left
  ·simp only [Act.put, Za, Zb, Zc, i64_w, i32_w]
   rfl
  refine done_ (by kernel_rfl) ?_
  have m11_0 : w11.cell? ⟨gX, 0, none⟩ = some (.int .i64 t) := (blk_cell hst11.px 0).trans rfl
  have m11_1 : w11.cell? ⟨gX, 1, none⟩ = some (.int .i64 s) := (blk_cell hst11.px 1).trans rfl
  have m11_2 : w11.cell? ⟨gX, 2, none⟩ = some (.slice X2 a.length x2) := (blk_cell hst11.px 2).trans rfl
  have m11_3 : w11.cell? ⟨gX, 3, none⟩ = some (.slice X3 b.length x3) := (blk_cell hst11.px 3).trans rfl
  go_wp2_with (first
   | (go_at_call 11; (with_reducible refine (mark1 t s X2 x2 a X3 x3 b w11 (gW + 1) (fun k => k < gX) hst11.leX hst11.rX (by have := hS.lb; omega) hXl.out hTXq.out).mono ?_); go_loud (
     rintro e w12 ⟨rfl, hR12, hK12⟩
     have hst12 := hst11.markX hK12 hR12 (mB_length _ _) (mR_length _ _)
     clear hR12 hK12
     have m12_0 : w12.cell? ⟨gW, 0, none⟩ = some (.slice W1 RR.a.length v1) := (blk_cell hst12.pw 0).trans rfl
     have m12_1 : w12.cell? ⟨gW, 1, none⟩ = some (.slice W2 RR.n.length v2) := (blk_cell hst12.pw 1).trans rfl
     have m12_2 : w12.cell? ⟨gW, 2, none⟩ = some (.slice W3 RR.o.length v3) := (blk_cell hst12.pw 2).trans rfl
     have k12_0 : w12.cell? ⟨gG, 0, none⟩ = some (.slice G1 RR.a.length y1) := (blk_cell hst12.pg 0).trans rfl
     have k12_1 : w12.cell? ⟨gG, 1, none⟩ = some (.slice G2 RR.n.length y2) := (blk_cell hst12.pg 1).trans rfl
     have k12_2 : w12.cell? ⟨gG, 2, none⟩ = some (.slice G3 RR.o.length y3) := (blk_cell hst12.pg 2).trans rfl))
   | (go_at_call 15; (with_reducible refine (eqSc RR.a RR.n RR.o G1 y1 G2 y2 G3 y3 W1 v1 W2 v2 W3 v3 w12 _ _ _ _ (hst12.rI trivial) hst12.rW hF.out.la hF.out.ln hF.out.lo).mono ?_); go_loud (
     rintro e w13 ⟨rfl, hb13⟩
     have hst13 := hst12.below hb13
     have k13_0 : w13.cell? ⟨gG, 0, none⟩ = some (.slice G1 RR.a.length y1) := (blk_cell hst13.pg 0).trans rfl
     have k13_1 : w13.cell? ⟨gG, 1, none⟩ = some (.slice G2 RR.n.length y2) := (blk_cell hst13.pg 1).trans rfl
     have k13_2 : w13.cell? ⟨gG, 2, none⟩ = some (.slice G3 RR.o.length y3) := (blk_cell hst13.pg 2).trans rfl))
   | (go_at_call 16; (with_reducible refine (markSc RR.a.length T2 T3 TG G1 y1 RR.a G2 RR.n.length y2 _ G3 RR.o.length y3 _ w13 (gX + 1) (fun k => k < gG) hst13.leG hst13.rF hT2q.out hT3q.out hTGq.out hGl.out).mono ?_); go_loud (
     rintro e w14 ⟨rfl, hR14, hK14⟩
     have hst14 := hst13.markG hK14 hR14 (mB_length _ _)
     clear hR14 hK14
     have k14_0 : w14.cell? ⟨gG, 0, none⟩ = some (.slice G1 RR.a.length y1) := (blk_cell hst14.pg 0).trans rfl
     have k14_1 : w14.cell? ⟨gG, 1, none⟩ = some (.slice G2 RR.n.length y2) := (blk_cell hst14.pg 1).trans rfl
     have k14_2 : w14.cell? ⟨gG, 2, none⟩ = some (.slice G3 RR.o.length y3) := (blk_cell hst14.pg 2).trans rfl))
   | (go_at_call 17; (with_reducible refine (heldSc RR.a.length RR.n.length RR.o.length T2 T3 TG G1 y1 G2 y2 G3 y3 w14 _ hst14.heldB hst14.rF.o2 hst14.rF.o3 hT2q.out hT3q.out hTGq.out hGl.out).mono ?_); go_loud (
     rintro e w15 ⟨rfl, hb15⟩
     have hst15 := hst14.below hb15
     have m15_0 : w15.cell? ⟨w.heap.size, 0, none⟩ = some (.int .i64 t) := (blk_cell hst15.p 0).trans rfl
     have m15_1 : w15.cell? ⟨w.heap.size, 1, none⟩ = some (.int .i64 s) := (blk_cell hst15.p 1).trans rfl
     have m15_2 : w15.cell? ⟨w.heap.size, 2, none⟩ = some (.slice A2 a.length c2) := (blk_cell hst15.p 2).trans rfl
     have m15_3 : w15.cell? ⟨w.heap.size, 3, none⟩ = some (.slice A3 b.length c3) := (blk_cell hst15.p 3).trans rfl))
   | (go_at_call 8; (with_reducible refine (laws_toRelation.calls kt t s A2 c2 a A3 c3 b _ _ _ _ w15 (hA.below hst15.bel).r2 hA.l2 (hA.below hst15.bel).r3 hA.l3 htr.out).mono ?_); go_loud (
     rintro e w16 ⟨q2, q3, rfl, r2, r3, hb16⟩
     obtain ⟨Z2, k2, e2⟩ := Kd.R_slice r2
     subst e2
     obtain ⟨Z3, k3, e3⟩ := Kd.S_slice r3
     subst e3
     have hst16 := hst15.below hb16
     have hA16 : Arg w16 Z2 k2 a Z3 k3 b := ⟨(Kd.R_reads' r2).2.2, (Kd.R_reads' r2).2.1, (Kd.S_reads' r3).2.2, (Kd.S_reads' r3).2.1⟩
     clear r2 r3))
   | (go_at_call 14; (
     have q := impl_sco t s Z2 k2 a Z3 k3 b _ hA16 hS (glob_below hG2.out hst16.bel)
     rw [hRq.out] at q
     with_reducible refine q.mono ?_
     clear q); go_loud (
     rintro e w17 ⟨H1, z1, H2, z2, H3, z3, rfl, hRH, hb17⟩
     have hb17a : Below w17.heap.size w17 (w17.alloc (.cells #[.slice H1 RR.a.length z1, .slice H2 RR.n.length z2, .slice H3 RR.o.length z3] 37)) := below_alloc (Below.refl _ _) _
     have hst17 := (hst16.below hb17).below hb17a
     have hH17 := hRH.below hb17a
     clear hRH
     have m17_0 : (w17.alloc (.cells #[.slice H1 RR.a.length z1, .slice H2 RR.n.length z2, .slice H3 RR.o.length z3] 37)).cell? ⟨gW, 0, none⟩ = some (.slice W1 RR.a.length v1) := (blk_cell hst17.pw 0).trans rfl
     have m17_1 : (w17.alloc (.cells #[.slice H1 RR.a.length z1, .slice H2 RR.n.length z2, .slice H3 RR.o.length z3] 37)).cell? ⟨gW, 1, none⟩ = some (.slice W2 RR.n.length v2) := (blk_cell hst17.pw 1).trans rfl
     have m17_2 : (w17.alloc (.cells #[.slice H1 RR.a.length z1, .slice H2 RR.n.length z2, .slice H3 RR.o.length z3] 37)).cell? ⟨gW, 2, none⟩ = some (.slice W3 RR.o.length v3) := (blk_cell hst17.pw 2).trans rfl))
   | (go_at_call 15; (with_reducible refine (eqSc RR.a RR.n RR.o H1 z1 H2 z2 H3 z3 W1 v1 W2 v2 W3 v3 (w17.alloc (.cells #[.slice H1 RR.a.length z1, .slice H2 RR.n.length z2, .slice H3 RR.o.length z3] 37)) _ _ _ _ hH17 hst17.rW hF.out.la hF.out.ln hF.out.lo).mono ?_); go_loud (
     rintro e w18 ⟨rfl, hb18⟩
     have hst18 := hst17.below hb18
     have k18_0 : w18.cell? ⟨gG, 0, none⟩ = some (.slice G1 RR.a.length y1) := (blk_cell hst18.pg 0).trans rfl
     have k18_1 : w18.cell? ⟨gG, 1, none⟩ = some (.slice G2 RR.n.length y2) := (blk_cell hst18.pg 1).trans rfl
     have k18_2 : w18.cell? ⟨gG, 2, none⟩ = some (.slice G3 RR.o.length y3) := (blk_cell hst18.pg 2).trans rfl))
   | (go_at_call 17; (with_reducible refine (heldSc RR.a.length RR.n.length RR.o.length T2 T3 TG G1 y1 G2 y2 G3 y3 w18 _ hst18.heldB hst18.rF.o2 hst18.rF.o3 hT2q.out hT3q.out hTGq.out hGl.out).mono ?_); go_loud (
     rintro e w19 ⟨rfl, hb19⟩
     have hst19 := hst18.below hb19)))
  go_ret
  exact ⟨rfl, hst19.bel⟩
end Go.Proofs.YtnjdkhnepmmfgaaDoor.LwSc
namespace Go.Proofs.YtnjdkhnepmmfgaaDoor.WFnExactScribeOf
set_option linter.unusedVariables false
set_option linter.unusedSimpArgs false
open Go.RowKit Go.Proofs.YtnjdkhnepmmfgaaDoorW.PrintWords Tid
theorem glob_of_laid {W : World} (h : laidMetH Tryd.prog Rows.fnExactScribeOfRow.laid W) : Glob W := by
 rw [MakeChecks.laidMetH_plain _ _ _ (by kernel_rfl)] at h
 have h2 := h.filter (fun x => x.1 == "internal/strconv.uint64pow10")
 exact Lib.tabIs_of_head (g := 0) (t := 158) (e := 152) (n := 20) (rest := []) (by kernel_rfl) (by kernel_rfl) (by kernel_rfl) (by kernel_rfl) (by kernel_rfl) (by kernel_rfl) h2
abbrev kRel : Kd (Int × Int × List Bool × List (List Int)) := Kd.pair (Kd.int .i64) (Kd.pair (Kd.int .i64) (Kd.pair (Kd.slice 4 Kd.bool) (Kd.slice 75 (Kd.slice 2 (Kd.int .i64)))))
theorem kRel_open {W : World} {y : Int × Int × List Bool × List (List Int)} {l : List Value} (h : kRel.K W y l) : ∃ A1 c1 A2 c2, l = [.int .i64 y.1, .int .i64 y.2.1, .slice A1 y.2.2.1.length c1, .slice A2 y.2.2.2.length c2] ∧ Go.Proofs.YtnjdkhnepmmfgaaDoor.Lr.Arg W A1 c1 y.2.2.1 A2 c2 y.2.2.2 := by
 obtain ⟨_, _, rfl, rfl, ⟨_, _, rfl, rfl, ⟨_, _, rfl, ⟨A1, c1, rfl, h1, r1⟩, ⟨A2, c2, rfl, h2, r2⟩⟩⟩⟩ := h
 exact ⟨A1, c1, A2, c2, rfl, r1, h1, r2, h2⟩
theorem walk (W : World) (hG : Glob W) (l0 : List Value) (y0 : Int × Int × List Bool × List (List Int)) (k0 : kRel.K W y0 l0) (b0 : (Lit.int .i64 y0.1).wf = true ∧ (Lit.int .i64 y0.2.1).wf = true ∧ (y0.2.2.1.length ≤ 9223372036854775807 ∧ ∀ z ∈ y0.2.2.1, True) ∧ (y0.2.2.2.length ≤ 9223372036854775807 ∧ ∀ z ∈ y0.2.2.2, (z.length ≤ 9223372036854775807 ∧ ∀ z' ∈ z, (Lit.int .i64 z').wf = true))) :
  Calls Tryd.prog 4 #[.agg l0.toArray] W fun e W' => e = .returned (.bool true) ∧ Below W.heap.size W W' := by
 obtain ⟨A1, c1, A2, c2, rfl, hA⟩ := kRel_open k0
 exact Go.Proofs.YtnjdkhnepmmfgaaDoor.LwSc.law_calls y0.1 y0.2.1 A1 c1 y0.2.2.1 A2 c2 y0.2.2.2 W hA hG b0.2.2.1.1 b0.2.2.2.1 (fun r hr => (b0.2.2.2.2 r hr).1)
end Go.Proofs.YtnjdkhnepmmfgaaDoor.WFnExactScribeOf
namespace Go.Proofs.YtnjdkhnepmmfgaaDoor.Reads
set_option linter.unusedVariables false
set_option linter.unusedSimpArgs false
open Go.RowKit Go.Deep Go.Proofs.YtnjdkhnepmmfgaaDoorW.PrintWords
/-- Whatever is read at type t is of kind d, and B holds of it. -/
def Opens (P : Program) (t : TypeId) {α : Type} (d : Kd α) (B : α → Prop) : Prop :=
 P.cellsOf t = d.sz ∧ ∀ (H : Type) (enc : TypeId × Value → H) (w : World) (spare : Nat → Bool) (held : Bool) (fuel : Nat) (cs : List Value) (x : DataW H × List MemPlace),
  DataW.trod enc P w 0 spare held fuel t cs = some x → ∃ y, d.K w y cs ∧ B y
variable {P : Program} {t e : TypeId}
theorem opens_int {k : IntKind} (ht : P.underlying t = some (.int k)) (hc : P.cellsOf t = 1) : Opens P t (Kd.int k) (fun n => (Lit.int k n).wf = true) :=
 ⟨hc, fun H enc w spare held fuel cs x h => by
  obtain ⟨n, rfl, _, hw⟩ := DataW.trod_int ht h
  exact ⟨n, rfl, hw⟩⟩
theorem opens_bool (ht : P.underlying t = some .bool) (hc : P.cellsOf t = 1) : Opens P t Kd.bool (fun _ => True) :=
 ⟨hc, fun H enc w spare held fuel cs x h => by
  obtain ⟨b, rfl, _⟩ := DataW.trod_bool ht h
  exact ⟨b, rfl, trivial⟩⟩
theorem opens_slice {α : Type} {d : Kd α} {B : α → Prop} (ht : P.underlying t = some (.slice e)) (hc : P.cellsOf t = 1) (he : Opens P e d B) : Opens P t (Kd.slice e d) (fun l => l.length ≤ 9223372036854775807 ∧ ∀ x ∈ l, B x) :=
 ⟨hc, fun H enc w spare held fuel cs x h => by
  rcases open_slice ht h with ⟨rfl, _⟩ | ⟨a, len, cap, m, n, D, Pl, rfl, _, hl, hm, hmm, _, hx⟩
  ·exact ⟨[], ⟨none, 0, rfl, Nat.le_refl _, rfl, by simp, fun h => by simp at h⟩, by simp, by simp⟩
  ·have hlm : len ≤ m := by rw [hmm]; split <;> omega
   obtain ⟨hs, hr⟩ := he
   have hex : ∀ i, i < len → ∃ y, B y ∧ ∃ c, c.length = d.sz ∧ d.K w y c ∧ ∀ k u, c[k]? = some u → w.cell? (a.add (i * d.sz + k)) = some u := by
    intro i hi
    obtain ⟨c, h1, h2⟩ := hx i (by omega)
    obtain ⟨_, hcl, hcell⟩ := World.cells?_some h1
    obtain ⟨y, hy, hB⟩ := hr H enc w spare held n c _ h2
    refine ⟨y, hB, c, by rw [hcl, hs], hy, fun k u hu => ?_⟩
    have hk : k < P.cellsOf e := by rw [← hcl]; exact (List.getElem?_eq_some_iff.1 hu).1
    have := hcell k hk
    rw [hu] at this
    rw [← this, hs]
    have ea : ∀ (b : Addr) (x y : Nat), (b.add x).add y = b.add (x + y) := fun b x y => by
     unfold Addr.add
     by_cases hx0 : x = 0 <;> by_cases hy0 : y = 0 <;> simp [hx0, hy0, Nat.add_assoc]
    rw [ea]
   clear hx
   have key : ∀ n, n ≤ len → ∃ l : List α, l.length = n ∧ ∀ i, (hi : i < l.length) → B l[i] ∧ ∃ c, c.length = d.sz ∧ d.K w l[i] c ∧ ∀ k u, c[k]? = some u → w.cell? (a.add (i * d.sz + k)) = some u := by
    intro n
    induction n with
    | zero => intro _; exact ⟨[], rfl, fun i hi => by simp at hi⟩
    | succ n ih =>
     intro hn
     obtain ⟨l, hl1, hl2⟩ := ih (by omega)
     obtain ⟨y, hB, hy⟩ := hex n (by omega)
     refine ⟨l ++ [y], by simp [hl1], fun i hi => ?_⟩
     by_cases h' : i < l.length
     ·rw [List.getElem_append_left h']
      exact hl2 i h'
     ·have : i = l.length := by simp at hi; omega
      subst this
      simp only [List.getElem_append_right (Nat.le_refl _), Nat.sub_self, List.getElem_cons_zero]
      rw [hl1]
      exact ⟨hB, hy⟩
   obtain ⟨l, hl1, hl2⟩ := key len (Nat.le_refl _)
   unfold maxLen at hm
   refine ⟨l, ⟨some a, cap, by rw [hl1], by omega, rfl, by omega, fun _ => ⟨a, rfl, fun j p hp => ?_⟩⟩, by omega, fun x hx => ?_⟩
   ·obtain ⟨hj, rfl⟩ := List.getElem?_eq_some_iff.1 hp
    exact (hl2 j hj).2
   ·obtain ⟨i, hi, rfl⟩ := List.mem_iff_getElem.1 hx
    exact (hl2 i hi).1⟩
/-! Fields in line: 'At o cs' is what stands from o on. -/
set_option linter.unusedVariables false in
def Fields (P : Program) : List Field → Nat → (α : Type) → Kd α → (α → Prop) → Prop
 | [], _, _, _, _ => False
 | [f], o, α, d, B => f.offset = o ∧ Opens P f.type d B
 | f :: g :: fs, o, α, d, B => ∃ (β γ : Type) (b : Kd β) (c : Kd γ) (B1 : β → Prop) (B2 : γ → Prop) (h : α = (β × γ)), f.offset = o ∧ Opens P f.type b B1 ∧ Fields P (g :: fs) (o + b.sz) γ c B2 ∧
   h ▸ d = Kd.pair b c ∧ ∀ x, B x ↔ B1 (cast h x).1 ∧ B2 (cast h x).2
theorem fields_one {α : Type} {d : Kd α} {B : α → Prop} {f : Field} {o : Nat} (ho : f.offset = o) (h : Opens P f.type d B) : Fields P [f] o α d B := ⟨ho, h⟩
theorem fields_cons {β γ : Type} {b : Kd β} {c : Kd γ} {B1 : β → Prop} {B2 : γ → Prop} {f g : Field} {fs : List Field} {o : Nat} (ho : f.offset = o) (h : Opens P f.type b B1) (hr : Fields P (g :: fs) (o + b.sz) γ c B2) :
  Fields P (f :: g :: fs) o (β × γ) (Kd.pair b c) (fun x => B1 x.1 ∧ B2 x.2) := ⟨β, γ, b, c, B1, B2, rfl, ho, h, hr, rfl, fun _ => Iff.rfl⟩
theorem fields_read : ∀ (fs : List Field) (o : Nat) (α : Type) (d : Kd α) (B : α → Prop), Fields P fs o α d B → ∀ (H : Type) (enc : TypeId × Value → H) (w : World) (spare : Nat → Bool) (held : Bool) (n : Nat) (cs : List Value) (xs : List (DataW H × List MemPlace)),
  cs.length = o + d.sz → xs.length = fs.length → (∀ (i : Nat) (f : Field), fs[i]? = some f → DataW.trod enc P w 0 spare held n f.type ((cs.drop f.offset).take (P.cellsOf f.type)) = xs[i]?) → ∃ y, d.K w y (cs.drop o) ∧ B y
 | [], _, _, _, _, h => h.elim
 | [f], o, α, d, B, h => by
  obtain ⟨rfl, h⟩ := h
  intro H enc w spare held n cs xs hl hx hf
  have h0 := hf 0 f rfl
  obtain ⟨x, hx0⟩ : ∃ x, xs[0]? = some x := ⟨_, List.getElem?_eq_getElem (by rw [hx]; simp)⟩
  rw [hx0] at h0
  obtain ⟨y, hy, hB⟩ := h.2 H enc w spare held n _ _ h0
  refine ⟨y, ?_, hB⟩
  rw [List.take_of_length_le (by rw [h.1, List.length_drop, hl]; omega)] at hy
  exact hy
 | f :: g :: fs, o, α, d, B, h => by
  obtain ⟨β, γ, b, c, B1, B2, rfl, rfl, h1, h2, rfl, hB⟩ := h
  intro H enc w spare held n cs xs hl hx hf
  have h0 := hf 0 f rfl
  obtain ⟨x, hx0⟩ : ∃ x, xs[0]? = some x := ⟨_, List.getElem?_eq_getElem (by rw [hx]; simp)⟩
  rw [hx0] at h0
  obtain ⟨y, hy, hB1⟩ := h1.2 H enc w spare held n _ _ h0
  obtain ⟨z, hz, hB2⟩ := fields_read (g :: fs) (f.offset + b.sz) γ c B2 h2 H enc w spare held n cs (xs.drop 1) (by rw [hl]; show _ + (b.sz + c.sz) = _; omega) (by simp [hx]) (fun i f' hi => by
   rw [List.getElem?_drop, Nat.add_comm 1 i]
   exact hf (i + 1) f' (by simpa using hi))
  refine ⟨(y, z), ⟨_, _, ?_, hy, hz⟩, (hB (y, z)).2 ⟨hB1, hB2⟩⟩
  rw [h1.1, ← List.drop_drop, List.take_append_drop]
theorem opens_struct {α : Type} {d : Kd α} {B : α → Prop} {fs : Array Field} (ht : P.underlying t = some (.struct fs)) (hc : P.cellsOf t = d.sz) (h : Fields P fs.toList 0 α d B) : Opens P t d B :=
 ⟨hc, fun H enc w spare held fuel cs x hx => by
  obtain ⟨xs, n, _, _, hl, hlen, hf⟩ := DataW.trod_struct ht hx
  obtain ⟨y, hy, hB⟩ := fields_read fs.toList 0 α d B h H enc w spare held n cs xs (by rw [hl, hc]; omega) (by simpa using hlen) (fun i f hi => hf i f (by simpa using hi))
  exact ⟨y, hy, hB⟩⟩
/-- An argument: what it is made of. -/
theorem opens_arg {α : Type} {d : Kd α} {B : α → Prop} (h : Opens P t d B) {H : Type} {enc : TypeId × Value → H} {w : World} {spare : Nat → Bool} {held : Bool} {v : Value} {x : DataW H} {ps : List MemPlace}
  (hv : DataW.Trod enc P w 0 spare held t v x ps) : ∃ y, d.K w y v.cells.toList ∧ B y := by
 obtain ⟨fuel, hf⟩ := hv
 exact h.2 H enc w spare held fuel _ _ hf
end Go.Proofs.YtnjdkhnepmmfgaaDoor.Reads
namespace Go.Proofs.YtnjdkhnepmmfgaaDoor.LFnExactScribeOf
open Go.ChangeShapes Go.WideShapes Go.ChangeAt Go.RowKit Go.Proofs.YtnjdkhnepmmfgaaDoorW.PrintWords Reads PT3
open Go.ChangeMaps (open_string shut_string)
theorem own : ownKnob Tryd.prog.godebug = none := by kernel_rfl
theorem laidOut : laidOutB Tryd.prog = true := by kernel_rfl
/-- The door's own heap meets the condition. -/
theorem door_met (os : Os) (args : Array Value) : laidMetH Tryd.prog Rows.fnExactScribeOfRow.laid ((World.doorLaid Tryd.prog 72 os).forCall (fun _ _ => 0) ⟨#[], args, []⟩).memory :=
 laidMetH_of_parts3 (fuel := 8) (laidMet_of_run' 8 (by kernel_rfl) (by kernel_rfl)) (by kernel_rfl) (by kernel_rfl)
set_option maxRecDepth 100000 in
theorem lifted (os : Os) (started : os.Started) (H : Type) (enc : TypeId × Value → H) :
  ReturnsInHanded {} Tryd.checked os 4 .any (fun w args => (Rows.fnExactScribeOfSpec.pre enc Tryd.prog Tryd.f4 [] false w args ∧ laidMetH Tryd.prog Rows.fnExactScribeOfRow.laid w) ∧ sizedMet enc Tryd.prog Tryd.f4 (OpenSpec.ofChange Rows.fnExactScribeOfSpec) false w args)
   (Rows.fnExactScribeOfSpec.post enc Tryd.prog Tryd.f4 false true false false) := by
 refine returnsInHanded_of_change_and (C := Tryd.checked) (X := fun w _ => laidMetH Tryd.prog Rows.fnExactScribeOfRow.laid w) (fun _ _ _ hh h => h.of_heap hh) own started (by kernel_rfl) Tryd.func4
  (ChangeSpec.witness_shaped (enc := enc) (C := Tryd.checked) (os := os) (X := fun w _ => laidMetH Tryd.prog Rows.fnExactScribeOfRow.laid w) false (World.doorLaid Tryd.prog 72 os) #[.agg #[.int .i64 0, .int .i64 0, .slice none 0 0, .slice none 0 0]] 8 rfl (World.shaped_of_RefB (by kernel_rfl) (by kernel_rfl)) (by kernel_rfl) (by kernel_rfl) (by kernel_rfl) (door_met os _)) ?_
 intro W base args ds gs before hval0 hW hcnd hsz0 hL _
 have hval : ∀ (j : Nat) t v, Tryd.f4.params[j]? = some t → args[j]? = some v → Value.okWide Tryd.prog W .any base t v := hval0
 have hW' := hW
 obtain ⟨p, q, hA0, hV, rfl, hfz, hnd⟩ := hW
 have hA : DataW.TrodAll enc Tryd.prog W 0 (fun _ => true) true Tryd.f4.params.toList args.toList ds p := hA0
 rw [Tryd.params4] at hA hval
 obtain ⟨v0, vs0, d0, ds0, p0, q0, hargs, rfl, rfl, h0, r0⟩ := trodAll_cons hA
 obtain ⟨rfl, rfl, rfl⟩ := trodAll_nil r0
 obtain rfl : args = #[v0] := by cases args; simp_all
 obtain ⟨rfl, rfl⟩ := trodVars_none hV
 have k0 := h0
 have lt0 : ∀ x ∈ p0, x.block < W.heap.size := by obtain ⟨m, hm⟩ := k0; exact DataW.trod_lt m _ _ _ hm
 obtain ⟨y0, kk0, bb0⟩ := opens_arg (opens_struct Tryd.underlying25 (by kernel_rfl) (fields_cons rfl (opens_int Tryd.underlying2 (by kernel_rfl)) (fields_cons rfl (opens_int Tryd.underlying2 (by kernel_rfl)) (fields_cons rfl (opens_slice Tryd.underlying22 (by kernel_rfl) (opens_bool Tryd.underlying4 (by kernel_rfl))) (fields_one rfl (opens_slice Tryd.underlying23 (by kernel_rfl) (opens_slice Tryd.underlying75 (by kernel_rfl) (opens_int Tryd.underlying2 (by kernel_rfl))))))))) h0
 obtain ⟨ca0, rfl, _⟩ := okWide_struct Tryd.underlying25 (hval 0 25 v0 rfl rfl)
 obtain ⟨l0, rfl⟩ : ∃ l : List Value, ca0 = l.toArray := ⟨ca0.toList, by simp⟩
 replace kk0 : (Kd.pair (Kd.int .i64) (Kd.pair (Kd.int .i64) (Kd.pair (Kd.slice 4 Kd.bool) (Kd.slice 75 (Kd.slice 2 (Kd.int .i64)))))).K W y0 l0 := kk0
 clear hA0 hval0 hsz0
 refine (Go.Proofs.YtnjdkhnepmmfgaaDoor.WFnExactScribeOf.walk W (WFnExactScribeOf.glob_of_laid hL) l0 y0 kk0 bb0).mono fun e W' ⟨he, bel⟩ => ?_
 subst he
 exact ⟨_, rfl, _, _, _, [], _, [], hW', trodAll_mk1 (shut_bool Tryd.underlying4 _), (trodAll_cons_mk (Below.trod laidOut (by kernel_rfl) (of_decide_eq_true (by kernel_rfl)) k0 bel lt0) trodAll_mk0), rfl, bel.frame _, fun h => by cases h⟩
theorem over : Rows.fnExactScribeOfRow.holds Tryd.pinned (OpenSpec.ofChange Rows.fnExactScribeOfSpec) :=
 OpenClaim.holds_of_wide 4 Tryd.f4 rfl rfl rfl rfl rfl rfl rfl ⟨rfl, rfl, rfl, rfl, rfl⟩ rfl rfl rfl rfl rfl (by kernel_rfl) Tryd.func4 (by kernel_rfl)
  (of_decide_eq_true (by kernel_rfl)) (by unfold Func.isWrapper; first | (rw [if_pos (by decide +kernel)]; kernel_rfl) | (rw [if_neg (by decide +kernel)]; exact ⟨rfl, rfl⟩))
  (fun os started H enc _ => lifted os started H enc)
theorem proved : Rows.FnExactScribeOfSaid := over
#print axioms proved
end Go.Proofs.YtnjdkhnepmmfgaaDoor.LFnExactScribeOf
namespace Go.Proofs.YtnjdkhnepmmfgaaDoor
/-- The row, under a short name, for the claim. -/
theorem fnExactScribeOf_holds : Rows.FnExactScribeOfSaid := LFnExactScribeOf.proved
end Go.Proofs.YtnjdkhnepmmfgaaDoor
