-- Written by drv.py (a program of this session) over the kit's print.py. Not trusted: Lean checks it.
import Derived.Test.YtnlcddjdedidlaaPScAx0
import Derived.Test.YtnlcddjdedidlaaPScAx3
namespace Go.Proofs.Ytnlcddjdedidlaa.PScA
open Go.RowKit Go.Proofs.YtnlcddjdedidlaaW.PrintWords Go.Proofs.YtnlcddjdedidlaaW.PrintLast Go.Proofs.YtnlcddjdedidlaaW.PrintMore Go.Proofs.Ytnlcddjdedidlaa.Sc
attribute [local go_sem] max2_int min2_int max_two min_two max_three min_three max_four min_four   -- for this text's walks alone
set_option linter.unusedVariables false
set_option linter.unusedSimpArgs false

/-- A state of type 35 at block g of W; what its slices lead to came in by w0. -/
def IsS35 (w0 W : World) (g : Nat) (f0 : List Bool) (f1 : List (S49)) (f2 : List (S50)) : Prop := ∃ A0 c0, ∃ A1 c1, ∃ A2 c2, W.heap[g]? = some (.cells #[.slice A0 f0.length c0, .slice A1 f1.length c1, .slice A2 f2.length c2] 35 (0, 0)) ∧ w0.heap.size ≤ g ∧ Kd.C Kd.bool w0 A0 f0.length f0 ∧ Kd.C k49 w0 A1 f1.length f1 ∧ Kd.C k50 w0 A2 f2.length f2
theorem IsS35.grown {w0 W : World} {g : Nat} {f0 : List Bool} {f1 : List (S49)} {f2 : List (S50)} {W1 : World} {row : Option Nat} (h : IsS35 w0 W g f0 f1 f2) (hw : W.grownBy W1 row) (hne : some g ≠ row) : IsS35 w0 W1 g f0 f1 f2 := by
  obtain ⟨A0, c0, A1, c1, A2, c2, hb, hg, hr0, hr1, hr2⟩ := h
  exact ⟨A0, c0, A1, c1, A2, c2, blk_grown hb hw hne, hg, hr0, hr1, hr2⟩
theorem IsS35.own_neN {w0 W : World} {g : Nat} {f0 : List Bool} {f1 : List (S49)} {f2 : List (S50)} {α : Type} {d : Kd α} {e : Nat} {base : Nat} {ok : Nat → Prop} {v : Value} {xs : List α} (h : IsS35 w0 W g f0 f1 f2) (ho : Kd.N d e W base ok v xs) (ht : e ≠ 35) : some g ≠ v.ownBlock := by
  obtain ⟨A0, c0, A1, c1, A2, c2, hb, hg, hr0, hr1, hr2⟩ := h
  exact Kd.N_ne ho hb ht
theorem IsS35.fresh {w0 W : World} {g : Nat} {f0 : List Bool} {f1 : List (S49)} {f2 : List (S50)} (h : IsS35 w0 W g f0 f1 f2) : ∀ k, W.heap.size ≤ k → k ≠ g := by
  obtain ⟨A0, c0, A1, c1, A2, c2, hb, hg, hr0, hr1, hr2⟩ := h
  exact Kd.freshB hb
theorem IsS35.kept {w0 W : World} {g : Nat} {f0 : List Bool} {f1 : List (S49)} {f2 : List (S50)} {W1 : World} {S : Nat → Prop} (h : IsS35 w0 W g f0 f1 f2) (hk : Kept W W1 S) (hne : ¬ S g) : IsS35 w0 W1 g f0 f1 f2 := by
  obtain ⟨A0, c0, A1, c1, A2, c2, hb, hg, hr0, hr1, hr2⟩ := h
  exact ⟨A0, c0, A1, c1, A2, c2, blk_kept hb hk hne, hg, hr0, hr1, hr2⟩
theorem IsS35.below {w0 W : World} {g : Nat} {f0 : List Bool} {f1 : List (S49)} {f2 : List (S50)} {W1 : World} (h : IsS35 w0 W g f0 f1 f2) (hw : Below W.heap.size W W1) : IsS35 w0 W1 g f0 f1 f2 := h.grown (grown_of_below hw none) (by simp)
theorem IsS35.alloc {w0 W : World} {g : Nat} {f0 : List Bool} {f1 : List (S49)} {f2 : List (S50)} (h : IsS35 w0 W g f0 f1 f2) (o : Obj) : IsS35 w0 (W.alloc o) g f0 f1 f2 := h.below (below_alloc (Below.refl _ _) o)
theorem IsS35.drewN {w0 W : World} {g : Nat} {f0 : List Bool} {f1 : List (S49)} {f2 : List (S50)} (h : IsS35 w0 W g f0 f1 f2) (m : Nat) : IsS35 w0 (W.drewN m) g f0 f1 f2 := h
theorem IsS35.drew {w0 W : World} {g : Nat} {f0 : List Bool} {f1 : List (S49)} {f2 : List (S50)} (h : IsS35 w0 W g f0 f1 f2) : IsS35 w0 W.drew g f0 f1 f2 := h
theorem IsS35.at_ {w0 W : World} {g : Nat} {f0 : List Bool} {f1 : List (S49)} {f2 : List (S50)} {w' : World} {m : Nat} (hq : W.drewN m = w') (h : IsS35 w0 W g f0 f1 f2) : IsS35 w0 w' g f0 f1 f2 := by subst hq; exact IsS35.drewN h m
theorem IsS35.apart {w0 W : World} {g : Nat} {f0 : List Bool} {f1 : List (S49)} {f2 : List (S50)} {α : Type} {d : Kd α} {e : Nat} {base : Nat} {ok : Nat → Prop} {v : Value} {xs : List α} (h : IsS35 w0 W g f0 f1 f2) (ho : d.R e W base ok v xs) (ht : ∀ q, q ∈ e :: d.E → q ≠ 35) : d.R e W base (fun k => ok k ∧ k ≠ g) v xs := by
  obtain ⟨A0, c0, A1, c1, A2, c2, hb, hg, hr0, hr1, hr2⟩ := h
  exact Kd.R_types ho hb ht
theorem IsS35.own_ne {w0 W : World} {g : Nat} {f0 : List Bool} {f1 : List (S49)} {f2 : List (S50)} {α : Type} {d : Kd α} {e : Nat} {base : Nat} {ok : Nat → Prop} {v : Value} {xs : List α} (h : IsS35 w0 W g f0 f1 f2) (ho : d.R e W base ok v xs) (ht : e ≠ 35) : some g ≠ v.ownBlock := by
  obtain ⟨A0, c0, A1, c1, A2, c2, hb, hg, hr0, hr1, hr2⟩ := h
  exact Kd.R_ne ho hb ht
theorem IsS35.apartQ {w0 W : World} {g : Nat} {f0 : List Bool} {f1 : List (S49)} {f2 : List (S50)} {α : Type} {d : Kd α} {e : Nat} {base : Nat} {ok : Nat → Prop} {v : Value} {xs : List α} (h : IsS35 w0 W g f0 f1 f2) (ho : d.Q e W base ok v xs) (ht : ∀ q, q ∈ e :: d.E → q ≠ 35) : d.Q e W base (fun k => ok k ∧ k ≠ g) v xs := by
  obtain ⟨A0, c0, A1, c1, A2, c2, hb, hg, hr0, hr1, hr2⟩ := h
  exact Kd.Q_types ho hb ht
theorem IsS35.own_neQ {w0 W : World} {g : Nat} {f0 : List Bool} {f1 : List (S49)} {f2 : List (S50)} {α : Type} {d : Kd α} {e : Nat} {base : Nat} {ok : Nat → Prop} {v : Value} {xs : List α} (h : IsS35 w0 W g f0 f1 f2) (ho : d.Q e W base ok v xs) (ht : e ≠ 35) : some g ≠ v.ownBlock := by
  obtain ⟨A0, c0, A1, c1, A2, c2, hb, hg, hr0, hr1, hr2⟩ := h
  exact Kd.Q_ne ho hb ht
theorem IsS35.apartS {w0 W : World} {g : Nat} {f0 : List Bool} {f1 : List (S49)} {f2 : List (S50)} {α : Type} {d : Kd α} {e : Nat} {base : Nat} {ok : Nat → Prop} {v : Value} {xs : List α} (h : IsS35 w0 W g f0 f1 f2) (ho : d.S e W base ok v xs) (ht : ∀ q, q ∈ e :: d.E → q ≠ 35) : d.S e W base (fun k => ok k ∧ k ≠ g) v xs := by
  obtain ⟨A0, c0, A1, c1, A2, c2, hb, hg, hr0, hr1, hr2⟩ := h
  exact Kd.S_types ho hb ht
theorem IsS35.own_neS {w0 W : World} {g : Nat} {f0 : List Bool} {f1 : List (S49)} {f2 : List (S50)} {α : Type} {d : Kd α} {e : Nat} {base : Nat} {ok : Nat → Prop} {v : Value} {xs : List α} (h : IsS35 w0 W g f0 f1 f2) (ho : d.S e W base ok v xs) (ht : e ≠ 35) : some g ≠ v.ownBlock := by
  obtain ⟨A0, c0, A1, c1, A2, c2, hb, hg, hr0, hr1, hr2⟩ := h
  exact Kd.S_ne ho hb ht
theorem IsS35.lt {w0 W : World} {g : Nat} {f0 : List Bool} {f1 : List (S49)} {f2 : List (S50)} (h : IsS35 w0 W g f0 f1 f2) : g < W.heap.size := by
  obtain ⟨A0, c0, A1, c1, A2, c2, hb, hg, hr0, hr1, hr2⟩ := h
  exact blk_lt hb
theorem IsS35.ge {w0 W : World} {g : Nat} {f0 : List Bool} {f1 : List (S49)} {f2 : List (S50)} (h : IsS35 w0 W g f0 f1 f2) : w0.heap.size ≤ g := by
  obtain ⟨A0, c0, A1, c1, A2, c2, hb, hg, hr0, hr1, hr2⟩ := h
  exact hg
theorem IsS35.ne_blk {w0 W : World} {g : Nat} {f0 : List Bool} {f1 : List (S49)} {f2 : List (S50)} {a : Nat} {cs : Array Value} {t : TypeId} {fr : Nat × Nat} (h : IsS35 w0 W g f0 f1 f2) (hb2 : W.heap[a]? = some (.cells cs t fr)) (ht : t ≠ 35) : g ≠ a := by
  obtain ⟨A0, c0, A1, c1, A2, c2, hb, hg, hr0, hr1, hr2⟩ := h
  rintro rfl
  rw [hb] at hb2
  injection hb2 with hb2
  injection hb2 with _ ht2
  exact ht ht2.symm
theorem IsS35.far {w0 W : World} {g : Nat} {f0 : List Bool} {f1 : List (S49)} {f2 : List (S50)} {p : Addr} (h : IsS35 w0 W g f0 f1 f2) (hne : g ≠ p.block) (u : Value) : IsS35 w0 (W.setCell p u) g f0 f1 f2 := by
  obtain ⟨A0, c0, A1, c1, A2, c2, hb, hg, hr0, hr1, hr2⟩ := h
  exact ⟨A0, c0, A1, c1, A2, c2, blk_far hb hne u, hg, hr0, hr1, hr2⟩
theorem cellS35_0 {W : World} {g : Nat} {A0 : Option Addr} {c0 : Nat} {A1 : Option Addr} {c1 : Nat} {A2 : Option Addr} {c2 : Nat} {f0 : List Bool} {f1 : List (S49)} {f2 : List (S50)} (h : W.heap[g]? = some (.cells #[.slice A0 f0.length c0, .slice A1 f1.length c1, .slice A2 f2.length c2] 35 (0, 0))) : W.cell? ⟨g, 0, none⟩ = some (.slice A0 f0.length c0) := (blk_cell h 0).trans rfl
theorem cellS35_1 {W : World} {g : Nat} {A0 : Option Addr} {c0 : Nat} {A1 : Option Addr} {c1 : Nat} {A2 : Option Addr} {c2 : Nat} {f0 : List Bool} {f1 : List (S49)} {f2 : List (S50)} (h : W.heap[g]? = some (.cells #[.slice A0 f0.length c0, .slice A1 f1.length c1, .slice A2 f2.length c2] 35 (0, 0))) : W.cell? ⟨g, 1, none⟩ = some (.slice A1 f1.length c1) := (blk_cell h 1).trans rfl
theorem cellS35_2 {W : World} {g : Nat} {A0 : Option Addr} {c0 : Nat} {A1 : Option Addr} {c1 : Nat} {A2 : Option Addr} {c2 : Nat} {f0 : List Bool} {f1 : List (S49)} {f2 : List (S50)} (h : W.heap[g]? = some (.cells #[.slice A0 f0.length c0, .slice A1 f1.length c1, .slice A2 f2.length c2] 35 (0, 0))) : W.cell? ⟨g, 2, none⟩ = some (.slice A2 f2.length c2) := (blk_cell h 2).trans rfl
theorem IsS35.new (w0 W : World) (A0 : Option Addr) (c0 : Nat) (A1 : Option Addr) (c1 : Nat) (A2 : Option Addr) (c2 : Nat) (f0 : List Bool) (f1 : List (S49)) (f2 : List (S50)) (hB : Below w0.heap.size w0 W) (hr0 : Kd.C Kd.bool w0 A0 f0.length f0) (hr1 : Kd.C k49 w0 A1 f1.length f1) (hr2 : Kd.C k50 w0 A2 f2.length f2) : IsS35 w0 (W.alloc (.cells #[.slice A0 f0.length c0, .slice A1 f1.length c1, .slice A2 f2.length c2] 35)) W.heap.size f0 f1 f2 := ⟨A0, c0, A1, c1, A2, c2, by simpa using heap_alloc_new W _, hB.size, hr0, hr1, hr2⟩

/-! ### spec_l07Ok: function 21 -/
mutual
def spec_l07Ok.j0 : Nat → Int → Bool → List Bool → List (S49) → List (S50) → Option (Bool)
  | 0, _, _, _, _, _ => none
  | k + 1, x3, x36, x1000, x1001, x1002 => if x36 = true then (some false) else (spec_l07Ok.l0 k x3 0 x1000 x1001 x1002)
def spec_l07Ok.l0 : Nat → Int → Int → List Bool → List (S49) → List (S50) → Option (Bool)
  | 0, _, _, _, _, _ => none
  | k + 1, x3, x4, x1000, x1001, x1002 => if x4 < x3 then (spec_l07Ok.l1 k x3 x4 0 x1000 x1001 x1002) else (some true)
def spec_l07Ok.l1 : Nat → Int → Int → Int → List Bool → List (S49) → List (S50) → Option (Bool)
  | 0, _, _, _, _, _, _ => none
  | k + 1, x3, x4, x5, x1000, x1001, x1002 => if x5 < 2 then (if 0 ≤ x4 then (if x4 < (x1001.length : Int) then (if x5 = 0 then (if x4 < (x1002.length : Int) then (if ((rd_T49 x1001 x4).f0) = (-1) then (spec_l07Ok.j3 k x3 x4 x5 ((rd_T49 x1001 x4).f0) ((rd_T50 x1002 x4).f0) (((rd_T50 x1002 x4).f0).toList == ([] : List UInt8)) x1000 x1001 x1002) else (spec_l07Ok.j3 k x3 x4 x5 ((rd_T49 x1001 x4).f0) ((rd_T50 x1002 x4).f0) false x1000 x1001 x1002)) else (none)) else (if x5 = 1 then (if x4 < (x1002.length : Int) then (if ((rd_T49 x1001 x4).f1) = (-1) then (spec_l07Ok.j4 k x3 x4 x5 ((rd_T49 x1001 x4).f1) ((rd_T50 x1002 x4).f1) (((rd_T50 x1002 x4).f1).toList == ([] : List UInt8)) x1000 x1001 x1002) else (spec_l07Ok.j4 k x3 x4 x5 ((rd_T49 x1001 x4).f1) ((rd_T50 x1002 x4).f1) false x1000 x1001 x1002)) else (none)) else (none))) else (none)) else (none)) else (spec_l07Ok.l0 k x3 (wrap64 (x4 + 1)) x1000 x1001 x1002)
def spec_l07Ok.j3 : Nat → Int → Int → Int → Int → ByteArray → Bool → List Bool → List (S49) → List (S50) → Option (Bool)
  | 0, _, _, _, _, _, _, _, _, _ => none
  | k + 1, x3, x4, x5, x6, x7, x69, x1000, x1001, x1002 => if x69 = true then (spec_l07Ok.l1 k x3 x4 (wrap64 (x5 + 1)) x1000 x1001 x1002) else ((spec_l00In.f x6 0 (wrap64 (x3 - 1))).bind fun t109 => (if t109 = true then (if x7.toList = ([97] : List UInt8) then (spec_l07Ok.l1 k x3 x4 (wrap64 (x5 + 1)) x1000 x1001 x1002) else (if x7.toList = ([98] : List UInt8) then (spec_l07Ok.l1 k x3 x4 (wrap64 (x5 + 1)) x1000 x1001 x1002) else (some false))) else (some false)))
def spec_l07Ok.j4 : Nat → Int → Int → Int → Int → ByteArray → Bool → List Bool → List (S49) → List (S50) → Option (Bool)
  | 0, _, _, _, _, _, _, _, _, _ => none
  | k + 1, x3, x4, x5, x6, x7, x69, x1000, x1001, x1002 => if x69 = true then (spec_l07Ok.l1 k x3 x4 (wrap64 (x5 + 1)) x1000 x1001 x1002) else ((spec_l00In.f x6 0 (wrap64 (x3 - 1))).bind fun t111 => (if t111 = true then (if x7.toList = ([97] : List UInt8) then (spec_l07Ok.l1 k x3 x4 (wrap64 (x5 + 1)) x1000 x1001 x1002) else (if x7.toList = ([98] : List UInt8) then (spec_l07Ok.l1 k x3 x4 (wrap64 (x5 + 1)) x1000 x1001 x1002) else (some false))) else (some false)))
end
def spec_l07Ok.f (k : Nat) (s0_0 : List Bool) (s0_1 : List (S49)) (s0_2 : List (S50)) : Option (Bool) := if (s0_0.length : Int) < 1 then (spec_l07Ok.j0 k (s0_0.length : Int) true s0_0 s0_1 s0_2) else (if (s0_0.length : Int) > 150 then (spec_l07Ok.j0 k (s0_0.length : Int) true s0_0 s0_1 s0_2) else (if (s0_1.length : Int) = (s0_0.length : Int) then (spec_l07Ok.j0 k (s0_0.length : Int) ((s0_2.length : Int) != (s0_0.length : Int)) s0_0 s0_1 s0_2) else (spec_l07Ok.j0 k (s0_0.length : Int) true s0_0 s0_1 s0_2)))
theorem spec_l07Ok.mono_l : ∀ k, (∀ y0 y1 y2 y3 y4, LeO (spec_l07Ok.j0 k y0 y1 y2 y3 y4) (spec_l07Ok.j0 (k + 1) y0 y1 y2 y3 y4)) ∧ (∀ y0 y1 y2 y3 y4, LeO (spec_l07Ok.l0 k y0 y1 y2 y3 y4) (spec_l07Ok.l0 (k + 1) y0 y1 y2 y3 y4)) ∧ (∀ y0 y1 y2 y3 y4 y5, LeO (spec_l07Ok.l1 k y0 y1 y2 y3 y4 y5) (spec_l07Ok.l1 (k + 1) y0 y1 y2 y3 y4 y5)) ∧ (∀ y0 y1 y2 y3 y4 y5 y6 y7 y8, LeO (spec_l07Ok.j3 k y0 y1 y2 y3 y4 y5 y6 y7 y8) (spec_l07Ok.j3 (k + 1) y0 y1 y2 y3 y4 y5 y6 y7 y8)) ∧ (∀ y0 y1 y2 y3 y4 y5 y6 y7 y8, LeO (spec_l07Ok.j4 k y0 y1 y2 y3 y4 y5 y6 y7 y8) (spec_l07Ok.j4 (k + 1) y0 y1 y2 y3 y4 y5 y6 y7 y8))
  | 0 => ⟨fun _ _ _ _ _ r h => by simp [spec_l07Ok.j0] at h, fun _ _ _ _ _ r h => by simp [spec_l07Ok.l0] at h, fun _ _ _ _ _ _ r h => by simp [spec_l07Ok.l1] at h, fun _ _ _ _ _ _ _ _ _ r h => by simp [spec_l07Ok.j3] at h, fun _ _ _ _ _ _ _ _ _ r h => by simp [spec_l07Ok.j4] at h⟩
  | k + 1 => by
    obtain ⟨ih0, ih1, ih2, ih3, ih4⟩ := spec_l07Ok.mono_l k
    refine ⟨?_, ?_, ?_, ?_, ?_⟩
    · intro y0 y1 y2 y3 y4
      unfold spec_l07Ok.j0
      repeat' first
      | (with_reducible exact ih0 _ _ _ _ _)
      | (with_reducible exact ih1 _ _ _ _ _)
      | (with_reducible exact ih2 _ _ _ _ _ _)
      | (with_reducible exact ih3 _ _ _ _ _ _ _ _ _)
      | (with_reducible exact ih4 _ _ _ _ _ _ _ _ _)
      | (with_reducible exact LeO.refl _)
      | (with_reducible exact LeO.none _)
      | (with_reducible refine LeO.ite ?_ ?_)
      | (with_reducible refine LeO.bind ?_ (fun _ => ?_))
      | exact ih0 _ _ _ _ _
      | exact ih1 _ _ _ _ _
      | exact ih2 _ _ _ _ _ _
      | exact ih3 _ _ _ _ _ _ _ _ _
      | exact ih4 _ _ _ _ _ _ _ _ _
      | exact LeO.none _
      | refine LeO.ite ?_ ?_
      | refine LeO.bind ?_ (fun _ => ?_)
    · intro y0 y1 y2 y3 y4
      unfold spec_l07Ok.l0
      repeat' first
      | (with_reducible exact ih0 _ _ _ _ _)
      | (with_reducible exact ih1 _ _ _ _ _)
      | (with_reducible exact ih2 _ _ _ _ _ _)
      | (with_reducible exact ih3 _ _ _ _ _ _ _ _ _)
      | (with_reducible exact ih4 _ _ _ _ _ _ _ _ _)
      | (with_reducible exact LeO.refl _)
      | (with_reducible exact LeO.none _)
      | (with_reducible refine LeO.ite ?_ ?_)
      | (with_reducible refine LeO.bind ?_ (fun _ => ?_))
      | exact ih0 _ _ _ _ _
      | exact ih1 _ _ _ _ _
      | exact ih2 _ _ _ _ _ _
      | exact ih3 _ _ _ _ _ _ _ _ _
      | exact ih4 _ _ _ _ _ _ _ _ _
      | exact LeO.none _
      | refine LeO.ite ?_ ?_
      | refine LeO.bind ?_ (fun _ => ?_)
    · intro y0 y1 y2 y3 y4 y5
      unfold spec_l07Ok.l1
      repeat' first
      | (with_reducible exact ih0 _ _ _ _ _)
      | (with_reducible exact ih1 _ _ _ _ _)
      | (with_reducible exact ih2 _ _ _ _ _ _)
      | (with_reducible exact ih3 _ _ _ _ _ _ _ _ _)
      | (with_reducible exact ih4 _ _ _ _ _ _ _ _ _)
      | (with_reducible exact LeO.refl _)
      | (with_reducible exact LeO.none _)
      | (with_reducible refine LeO.ite ?_ ?_)
      | (with_reducible refine LeO.bind ?_ (fun _ => ?_))
      | exact ih0 _ _ _ _ _
      | exact ih1 _ _ _ _ _
      | exact ih2 _ _ _ _ _ _
      | exact ih3 _ _ _ _ _ _ _ _ _
      | exact ih4 _ _ _ _ _ _ _ _ _
      | exact LeO.none _
      | refine LeO.ite ?_ ?_
      | refine LeO.bind ?_ (fun _ => ?_)
    · intro y0 y1 y2 y3 y4 y5 y6 y7 y8
      unfold spec_l07Ok.j3
      repeat' first
      | (with_reducible exact ih0 _ _ _ _ _)
      | (with_reducible exact ih1 _ _ _ _ _)
      | (with_reducible exact ih2 _ _ _ _ _ _)
      | (with_reducible exact ih3 _ _ _ _ _ _ _ _ _)
      | (with_reducible exact ih4 _ _ _ _ _ _ _ _ _)
      | (with_reducible exact LeO.refl _)
      | (with_reducible exact LeO.none _)
      | (with_reducible refine LeO.ite ?_ ?_)
      | (with_reducible refine LeO.bind ?_ (fun _ => ?_))
      | exact ih0 _ _ _ _ _
      | exact ih1 _ _ _ _ _
      | exact ih2 _ _ _ _ _ _
      | exact ih3 _ _ _ _ _ _ _ _ _
      | exact ih4 _ _ _ _ _ _ _ _ _
      | exact LeO.none _
      | refine LeO.ite ?_ ?_
      | refine LeO.bind ?_ (fun _ => ?_)
    · intro y0 y1 y2 y3 y4 y5 y6 y7 y8
      unfold spec_l07Ok.j4
      repeat' first
      | (with_reducible exact ih0 _ _ _ _ _)
      | (with_reducible exact ih1 _ _ _ _ _)
      | (with_reducible exact ih2 _ _ _ _ _ _)
      | (with_reducible exact ih3 _ _ _ _ _ _ _ _ _)
      | (with_reducible exact ih4 _ _ _ _ _ _ _ _ _)
      | (with_reducible exact LeO.refl _)
      | (with_reducible exact LeO.none _)
      | (with_reducible refine LeO.ite ?_ ?_)
      | (with_reducible refine LeO.bind ?_ (fun _ => ?_))
      | exact ih0 _ _ _ _ _
      | exact ih1 _ _ _ _ _
      | exact ih2 _ _ _ _ _ _
      | exact ih3 _ _ _ _ _ _ _ _ _
      | exact ih4 _ _ _ _ _ _ _ _ _
      | exact LeO.none _
      | refine LeO.ite ?_ ?_
      | refine LeO.bind ?_ (fun _ => ?_)
theorem spec_l07Ok.mono : ∀ a0 a1 a2 k, LeO (spec_l07Ok.f k a0 a1 a2) (spec_l07Ok.f (k + 1) a0 a1 a2) := by
  intro a0 a1 a2 k
  obtain ⟨ih0, ih1, ih2, ih3, ih4⟩ := spec_l07Ok.mono_l k
  unfold spec_l07Ok.f
  repeat' first
      | (with_reducible exact ih0 _ _ _ _ _)
      | (with_reducible exact ih1 _ _ _ _ _)
      | (with_reducible exact ih2 _ _ _ _ _ _)
      | (with_reducible exact ih3 _ _ _ _ _ _ _ _ _)
      | (with_reducible exact ih4 _ _ _ _ _ _ _ _ _)
      | (with_reducible exact LeO.refl _)
      | (with_reducible exact LeO.none _)
      | (with_reducible refine LeO.ite ?_ ?_)
      | (with_reducible refine LeO.bind ?_ (fun _ => ?_))
      | exact ih0 _ _ _ _ _
      | exact ih1 _ _ _ _ _
      | exact ih2 _ _ _ _ _ _
      | exact ih3 _ _ _ _ _ _ _ _ _
      | exact ih4 _ _ _ _ _ _ _ _ _
      | exact LeO.none _
      | refine LeO.ite ?_ ?_
      | refine LeO.bind ?_ (fun _ => ?_)
set_option maxHeartbeats 8000000 in
set_option maxRecDepth 100000 in
theorem spec_l07Ok.calls (k : Nat) (g : Nat) (s0_0 : List Bool) (s0_1 : List (S49)) (s0_2 : List (S50)) (r : Bool) (w0 w : World) (hI : IsS35 w0 w g s0_0 s0_1 s0_2) (hB : Below w0.heap.size w0 w) (h : spec_l07Ok.f k s0_0 s0_1 s0_2 = some r) :
    Calls Try.prog 21 #[.pointer (some ⟨g, 0, none⟩)] w fun e w' => e = .returned (.bool r) ∧ IsS35 w0 w' g s0_0 s0_1 s0_2 ∧ Below w0.heap.size w0 w' ∧ KeepBut w w' g none := by
  have HI0 := Aside0.mk hI
  have HK := Aside0.mk (KeepBut.refl w g none)
  have HL := Aside0.mk hB.size
  clear hI
  have HW0 := Aside0.mk hB.size
  have HB := Aside0.mk hB
  clear hB
  have H : (if (s0_0.length : Int) < 1 then (spec_l07Ok.j0 k (s0_0.length : Int) true s0_0 s0_1 s0_2) else (if (s0_0.length : Int) > 150 then (spec_l07Ok.j0 k (s0_0.length : Int) true s0_0 s0_1 s0_2) else (if (s0_1.length : Int) = (s0_0.length : Int) then (spec_l07Ok.j0 k (s0_0.length : Int) ((s0_2.length : Int) != (s0_0.length : Int)) s0_0 s0_1 s0_2) else (spec_l07Ok.j0 k (s0_0.length : Int) true s0_0 s0_1 s0_2)))) = some r := h
  clear h
  have HC2 := Aside0.mk H
  clear H
  obtain ⟨ASz3_0, cSz3_0, ASz3_1, cSz3_1, ASz3_2, cSz3_2, HGz3, hgz3, HSz3_0, HSz3_1, HSz3_2⟩ := HI0.out
  have hcz3_0 := cellS35_0 HGz3
  have hcz3_1 := cellS35_1 HGz3
  have hcz3_2 := cellS35_2 HGz3
  clear HGz3 hgz3
  go_enter Try.func21, Try.ntmps21
  go_upto_region 2 with (fail)
  go_cut [36] (fun v36 wc => ∃ (kq : Nat) (x36_1 : Bool), v36 = .bool x36_1 ∧ Aside0 (spec_l07Ok.j0 kq (s0_0.length : Int) x36_1 s0_0 s0_1 s0_2 = some r) ∧ Aside0 (kq ≤ k) ∧ Aside0 (IsS35 w0 wc g s0_0 s0_1 s0_2) ∧ Aside0 (KeepBut w wc g none) ∧ Aside0 (Below w0.heap.size w0 wc))
  case first =>
    have H := HC2.out
    clear HC2
    by_cases c4 : (s0_0.length : Int) < 1
    · rw [if_pos c4] at H
      have c4b0 : decide ((s0_0.length : Int) < 1) = true := decide_eq_true c4
      have c4b1 : decide (s0_0.length < 1) = true := decide_eq_true (by omega)
      clear c4
      (first | rw [c4b0] | (simp only [i64_w, i32_w]; rw [c4b0]) | skip)
      have H' := Aside0.mk H
      clear H
      go_wp2
      go_meet
      case rel => exact ⟨_, (true), (by first | rfl | (simp; done) | (simp [*]; done) | (simp [wrap64]; done)), H', ⟨by first | omega | exact Nat.le_refl _⟩, ⟨by repeat (first | (with_reducible first | exact HI0.out | apply IsS35.alloc | apply IsS35.drewN | apply IsS35.drew) | exact HI0.out)⟩, ⟨by repeat (first | (with_reducible first | exact HK.out | apply KeepBut.set_ | apply keep_drewN | apply keep_drew | apply keep_alloc) | exact HK.out)⟩, ⟨by repeat (first | (with_reducible first | exact HB.out | apply below_alloc | apply pw_below_drewN | apply below_drew1 | refine below_set ?_ (IsS35.ge HI0.out)) | exact HB.out)⟩⟩
    · rw [if_neg c4] at H
      have c4b0 : decide ((s0_0.length : Int) < 1) = false := decide_eq_false c4
      have c4b1 : decide (s0_0.length < 1) = false := decide_eq_false (by omega)
      clear c4
      (first | rw [c4b0] | (simp only [i64_w, i32_w]; rw [c4b0]) | skip)
      by_cases c5 : (s0_0.length : Int) > 150
      · rw [if_pos c5] at H
        have c5b0 : decide (150 < (s0_0.length : Int)) = true := decide_eq_true c5
        have c5b1 : decide (150 < s0_0.length) = true := decide_eq_true (by omega)
        clear c5
        have H' := Aside0.mk H
        clear H
        go_wp2
        go_meet
        case rel => exact ⟨_, (true), (by first | rfl | (simp; done) | (simp [*]; done) | (simp [wrap64]; done)), H', ⟨by first | omega | exact Nat.le_refl _⟩, ⟨by repeat (first | (with_reducible first | exact HI0.out | apply IsS35.alloc | apply IsS35.drewN | apply IsS35.drew) | exact HI0.out)⟩, ⟨by repeat (first | (with_reducible first | exact HK.out | apply KeepBut.set_ | apply keep_drewN | apply keep_drew | apply keep_alloc) | exact HK.out)⟩, ⟨by repeat (first | (with_reducible first | exact HB.out | apply below_alloc | apply pw_below_drewN | apply below_drew1 | refine below_set ?_ (IsS35.ge HI0.out)) | exact HB.out)⟩⟩
      · rw [if_neg c5] at H
        have c5b0 : decide (150 < (s0_0.length : Int)) = false := decide_eq_false c5
        have c5b1 : decide (150 < s0_0.length) = false := decide_eq_false (by omega)
        clear c5
        by_cases c6 : (s0_1.length : Int) = (s0_0.length : Int)
        · rw [if_pos c6] at H
          have c6b0 : ((s0_1.length : Int) == (s0_0.length : Int)) = true := beq_iff_eq.mpr c6
          have c6b1 : ((s0_1.length : Int) != (s0_0.length : Int)) = false := bne_eq_false_iff_eq.mpr c6
          have c6b2 : (s0_1.length == s0_0.length) = true := by first | simpa using c6 | (simp at c6 ⊢; omega)
          clear c6
          have H' := Aside0.mk H
          clear H
          obtain ⟨ASz7_0, cSz7_0, ASz7_1, cSz7_1, ASz7_2, cSz7_2, HGz7, hgz7, HSz7_0, HSz7_1, HSz7_2⟩ := HI0.out
          have hcz7_0 := cellS35_0 HGz7
          have hcz7_1 := cellS35_1 HGz7
          have hcz7_2 := cellS35_2 HGz7
          clear HGz7 hgz7
          go_wp2
          go_meet
          case rel => exact ⟨_, (((s0_2.length : Int) != (s0_0.length : Int))), (by first | rfl | (simp; done) | (simp [*]; done) | (simp [wrap64]; done)), H', ⟨by first | omega | exact Nat.le_refl _⟩, ⟨by repeat (first | (with_reducible first | exact HI0.out | apply IsS35.alloc | apply IsS35.drewN | apply IsS35.drew) | exact HI0.out)⟩, ⟨by repeat (first | (with_reducible first | exact HK.out | apply KeepBut.set_ | apply keep_drewN | apply keep_drew | apply keep_alloc) | exact HK.out)⟩, ⟨by repeat (first | (with_reducible first | exact HB.out | apply below_alloc | apply pw_below_drewN | apply below_drew1 | refine below_set ?_ (IsS35.ge HI0.out)) | exact HB.out)⟩⟩
        · rw [if_neg c6] at H
          have c6b0 : ((s0_1.length : Int) == (s0_0.length : Int)) = false := beq_eq_false_iff_ne.mpr c6
          have c6b1 : ((s0_1.length : Int) != (s0_0.length : Int)) = true := bne_iff_ne.mpr c6
          have c6b2 : (s0_1.length == s0_0.length) = false := by first | simpa using c6 | (simp at c6 ⊢; omega)
          have H' := Aside0.mk H
          clear H
          obtain ⟨ASz8_0, cSz8_0, ASz8_1, cSz8_1, ASz8_2, cSz8_2, HGz8, hgz8, HSz8_0, HSz8_1, HSz8_2⟩ := HI0.out
          have hcz8_0 := cellS35_0 HGz8
          have hcz8_1 := cellS35_1 HGz8
          have hcz8_2 := cellS35_2 HGz8
          clear HGz8 hgz8
          go_wp2
          go_meet
          case rel => exact ⟨_, (true), (by first | rfl | (simp; done) | (simp [*]; done) | (simp [wrap64]; done)), H', ⟨by first | omega | exact Nat.le_refl _⟩, ⟨by repeat (first | (with_reducible first | exact HI0.out | apply IsS35.alloc | apply IsS35.drewN | apply IsS35.drew) | exact HI0.out)⟩, ⟨by repeat (first | (with_reducible first | exact HK.out | apply KeepBut.set_ | apply keep_drewN | apply keep_drew | apply keep_alloc) | exact HK.out)⟩, ⟨by repeat (first | (with_reducible first | exact HB.out | apply below_alloc | apply pw_below_drewN | apply below_drew1 | refine below_set ?_ (IsS35.ge HI0.out)) | exact HB.out)⟩⟩
  case rest =>
    clear HC2
    try clear c2
    try clear p2
    try clear c4
    try clear c4b0
    try clear c4b1
    try clear c5
    try clear c5b0
    try clear c5b1
    try clear c6
    try clear c6b0
    try clear c6b1
    try clear c6b2
    try clear p6
    try clear hcz3_0
    try clear hcz3_1
    try clear hcz3_2
    try clear hcz7_0
    try clear hcz7_1
    try clear hcz7_2
    try clear hcz8_0
    try clear hcz8_1
    try clear hcz8_2
    obtain ⟨kq, x36_1, rfl, HA, HJ1, HI0, HK, HB⟩ := hcut
    cases kq with
    | zero => exact absurd HA.out (by simp [spec_l07Ok.j0])
    | succ kj1 =>
      have H := HA.out
      clear HA
      simp only [spec_l07Ok.j0] at H
      by_cases c9 : x36_1 = true
      · subst c9
        have H1 : (some false) = some r := by rw [if_pos rfl] at H; exact H
        clear H
        have H := H1
        clear H1
        obtain rfl := Option.some.inj H
        simp only [Option.some.injEq, Prod.mk.injEq] at H
        obtain ⟨rfl⟩ := H
        go_wp2
        go_ret
        exact ⟨by first | rfl | (simp [errW_none, errW_some] <;> rfl) | (simp [*, errW_none, errW_some] <;> rfl), by repeat (first | (with_reducible first | exact HI0.out | apply IsS35.alloc | apply IsS35.drewN | apply IsS35.drew) | exact HI0.out), by repeat (first | (with_reducible first | exact HB.out | apply below_alloc | apply pw_below_drewN | apply below_drew1 | refine below_set ?_ (IsS35.ge HI0.out)) | exact HB.out), by repeat (first | (with_reducible first | exact HK.out | apply KeepBut.set_ | apply keep_drewN | apply keep_drew | apply keep_alloc) | exact HK.out)⟩
      · replace c9 := Bool.eq_false_iff.mpr c9
        subst c9
        have H1 : (spec_l07Ok.l0 kj1 (s0_0.length : Int) 0 s0_0 s0_1 s0_2) = some r := by rw [if_neg (show ¬ (false = true) by decide)] at H; exact H
        clear H
        have H := H1
        clear H1
        have H' := Aside0.mk H
        clear H
        go_wp2
        go_loopg [4] kj1 (fun kq v4 w' => ∃ (x4_2 : Int), v4 = .int .i64 x4_2 ∧ Aside0 (spec_l07Ok.l0 kq (s0_0.length : Int) x4_2 s0_0 s0_1 s0_2 = some r) ∧ Aside0 (kq ≤ kj1) ∧ Aside0 (IsS35 w0 w' g s0_0 s0_1 s0_2) ∧ Aside0 (KeepBut w w' g none) ∧ Aside0 (Below w0.heap.size w0 w'))
        case atStart => exact ⟨(0), (by first | rfl | (simp; done) | (simp [*]; done) | (simp [wrap64]; done)), H', ⟨Nat.le_refl _⟩, ⟨by repeat (first | (with_reducible first | exact HI0.out | apply IsS35.alloc | apply IsS35.drewN | apply IsS35.drew) | exact HI0.out)⟩, ⟨by repeat (first | (with_reducible first | exact HK.out | apply KeepBut.set_ | apply keep_drewN | apply keep_drew | apply keep_alloc) | exact HK.out)⟩, ⟨by repeat (first | (with_reducible first | exact HB.out | apply below_alloc | apply pw_below_drewN | apply below_drew1 | refine below_set ?_ (IsS35.ge HI0.out)) | exact HB.out)⟩⟩
        case round =>
          clear H'
          try clear c2
          try clear p2
          try clear c4
          try clear c4b0
          try clear c4b1
          try clear c5
          try clear c5b0
          try clear c5b1
          try clear c6
          try clear c6b0
          try clear c6b1
          try clear c6b2
          try clear p6
          try clear c9
          try clear hcz3_0
          try clear hcz3_1
          try clear hcz3_2
          try clear hcz7_0
          try clear hcz7_1
          try clear hcz7_2
          try clear hcz8_0
          try clear hcz8_1
          try clear hcz8_2
          try clear p2
          try clear p6
          obtain ⟨x4_2, rfl, HA, HK2, HI0, HK, HB⟩ := hrel
          cases gk with
          | zero => exact absurd HA.out (by simp [spec_l07Ok.l0])
          | succ k2 =>
            have H := HA.out
            clear HA
            simp only [spec_l07Ok.l0] at H
            by_cases c10 : x4_2 < (s0_0.length : Int)
            · rw [if_pos c10] at H
              have c10b0 : decide (x4_2 < (s0_0.length : Int)) = true := decide_eq_true c10
              clear c10
              have H' := Aside0.mk H
              clear H
              go_wp2
              go_loopg [5] k2 (fun kq v5 w' => ∃ (x5_3 : Int), v5 = .int .i64 x5_3 ∧ Aside0 (spec_l07Ok.l1 kq (s0_0.length : Int) x4_2 x5_3 s0_0 s0_1 s0_2 = some r) ∧ Aside0 (kq ≤ k2) ∧ Aside0 (IsS35 w0 w' g s0_0 s0_1 s0_2) ∧ Aside0 (KeepBut w w' g none) ∧ Aside0 (Below w0.heap.size w0 w'))
              case atStart => exact ⟨(0), (by first | rfl | (simp; done) | (simp [*]; done) | (simp [wrap64]; done)), H', ⟨Nat.le_refl _⟩, ⟨by repeat (first | (with_reducible first | exact HI0.out | apply IsS35.alloc | apply IsS35.drewN | apply IsS35.drew) | exact HI0.out)⟩, ⟨by repeat (first | (with_reducible first | exact HK.out | apply KeepBut.set_ | apply keep_drewN | apply keep_drew | apply keep_alloc) | exact HK.out)⟩, ⟨by repeat (first | (with_reducible first | exact HB.out | apply below_alloc | apply pw_below_drewN | apply below_drew1 | refine below_set ?_ (IsS35.ge HI0.out)) | exact HB.out)⟩⟩
              case round =>
                clear H'
                try clear c1
                try clear c2
                try clear p2
                try clear c4
                try clear c4b0
                try clear c4b1
                try clear c5
                try clear c5b0
                try clear c5b1
                try clear c6
                try clear c6b0
                try clear c6b1
                try clear c6b2
                try clear p6
                try clear c9
                try clear c10
                try clear c10b0
                try clear hcz3_0
                try clear hcz3_1
                try clear hcz3_2
                try clear hcz7_0
                try clear hcz7_1
                try clear hcz7_2
                try clear hcz8_0
                try clear hcz8_1
                try clear hcz8_2
                try clear p2
                try clear p6
                obtain ⟨x5_3, rfl, HA, HK3, HI0, HK, HB⟩ := hrel
                cases gk with
                | zero => exact absurd HA.out (by simp [spec_l07Ok.l1])
                | succ k3 =>
                  have H := HA.out
                  clear HA
                  simp only [spec_l07Ok.l1] at H
                  by_cases c11 : x5_3 < 2
                  · rw [if_pos c11] at H
                    have c11b0 : decide (x5_3 < 2) = true := decide_eq_true c11
                    clear c11
                    by_cases c12 : 0 ≤ x4_2
                    · rw [if_pos c12] at H
                      have c12b0 : decide (0 ≤ x4_2) = true := decide_eq_true c12
                      clear c12
                      by_cases c13 : x4_2 < (s0_1.length : Int)
                      · rw [if_pos c13] at H
                        have c13b0 : decide (x4_2 < (s0_1.length : Int)) = true := decide_eq_true c13
                        clear c13
                        by_cases c14 : x5_3 = 0
                        · subst c14
                          have H1 : (if x4_2 < (s0_2.length : Int) then (if ((rd_T49 s0_1 x4_2).f0) = (-1) then (spec_l07Ok.j3 k3 (s0_0.length : Int) x4_2 0 ((rd_T49 s0_1 x4_2).f0) ((rd_T50 s0_2 x4_2).f0) (((rd_T50 s0_2 x4_2).f0).toList == ([] : List UInt8)) s0_0 s0_1 s0_2) else (spec_l07Ok.j3 k3 (s0_0.length : Int) x4_2 0 ((rd_T49 s0_1 x4_2).f0) ((rd_T50 s0_2 x4_2).f0) false s0_0 s0_1 s0_2)) else (none)) = some r := by rw [if_pos rfl] at H; exact H
                          clear H
                          have H := H1
                          clear H1
                          by_cases c15 : x4_2 < (s0_2.length : Int)
                          · rw [if_pos c15] at H
                            have c15b0 : decide (x4_2 < (s0_2.length : Int)) = true := decide_eq_true c15
                            clear c15
                            have HC16 := Aside0.mk H
                            clear H
                            obtain ⟨ASz17_0, cSz17_0, ASz17_1, cSz17_1, ASz17_2, cSz17_2, HGz17, hgz17, HSz17_0, HSz17_1, HSz17_2⟩ := HI0.out
                            have hcz17_0 := cellS35_0 HGz17
                            have hcz17_1 := cellS35_1 HGz17
                            have hcz17_2 := cellS35_2 HGz17
                            clear HGz17 hgz17
                            have p107 : 0 ≤ (x4_2 : Int) := of_decide_eq_true (by first | (with_reducible assumption) | assumption)
                            have q107 : x4_2 < (s0_1.length : Int) := of_decide_eq_true (by first | (with_reducible assumption) | assumption)
                            obtain ⟨ad107, e107, hx107_0, hx107_1⟩ := at_T49 HSz17_1 x4_2 p107 q107
                            cases e107
                            replace hx107_0 := pw_cell_below HB.out hx107_0
                            replace hx107_1 := pw_cell_below HB.out hx107_1
                            replace p107 := eq_true p107
                            replace q107 := eq_true q107
                            have p108 : 0 ≤ (x4_2 : Int) := of_decide_eq_true (by first | (with_reducible assumption) | assumption)
                            have q108 : x4_2 < (s0_2.length : Int) := of_decide_eq_true (by first | (with_reducible assumption) | assumption)
                            obtain ⟨ad108, e108, hx108_0, hx108_1⟩ := at_T50 HSz17_2 x4_2 p108 q108
                            cases e108
                            replace hx108_0 := pw_cell_below HB.out hx108_0
                            replace hx108_1 := pw_cell_below HB.out hx108_1
                            replace p108 := eq_true p108
                            replace q108 := eq_true q108
                            go_upto_region 12 with (fail)
                            go_cut [69] (fun v69 wc => ∃ (kq : Nat) (x69_15 : Bool), v69 = .bool x69_15 ∧ Aside0 (spec_l07Ok.j3 kq (s0_0.length : Int) x4_2 0 ((rd_T49 s0_1 x4_2).f0) ((rd_T50 s0_2 x4_2).f0) x69_15 s0_0 s0_1 s0_2 = some r) ∧ Aside0 (kq ≤ k3) ∧ Aside0 (IsS35 w0 wc g s0_0 s0_1 s0_2) ∧ Aside0 (KeepBut w wc g none) ∧ Aside0 (Below w0.heap.size w0 wc))
                            case first =>
                              have H := HC16.out
                              clear HC16
                              by_cases c18 : ((rd_T49 s0_1 x4_2).f0) = (-1)
                              · rw [if_pos c18] at H
                                have c18b0 : (((rd_T49 s0_1 x4_2).f0) == (-1)) = true := beq_iff_eq.mpr c18
                                have c18b1 : (((rd_T49 s0_1 x4_2).f0) != (-1)) = false := bne_eq_false_iff_eq.mpr c18
                                clear c18
                                (first | rw [c18b0] | (simp only [i64_w, i32_w]; rw [c18b0]) | skip)
                                have H' := Aside0.mk H
                                clear H
                                go_wp2
                                go_meet
                                case rel => exact ⟨_, ((((rd_T50 s0_2 x4_2).f0).toList == ([] : List UInt8))), (by first | rfl | (simp; done) | (simp [*]; done) | (simp [wrap64]; done)), H', ⟨by have := HJ1.out; have := HK2.out; have := HK3.out; first | omega | exact Nat.le_refl _⟩, ⟨by repeat (first | (with_reducible first | exact HI0.out | apply IsS35.alloc | apply IsS35.drewN | apply IsS35.drew) | exact HI0.out)⟩, ⟨by repeat (first | (with_reducible first | exact HK.out | apply KeepBut.set_ | apply keep_drewN | apply keep_drew | apply keep_alloc) | exact HK.out)⟩, ⟨by repeat (first | (with_reducible first | exact HB.out | apply below_alloc | apply pw_below_drewN | apply below_drew1 | refine below_set ?_ (IsS35.ge HI0.out)) | exact HB.out)⟩⟩
                              · rw [if_neg c18] at H
                                have c18b0 : (((rd_T49 s0_1 x4_2).f0) == (-1)) = false := beq_eq_false_iff_ne.mpr c18
                                have c18b1 : (((rd_T49 s0_1 x4_2).f0) != (-1)) = true := bne_iff_ne.mpr c18
                                (first | rw [c18b0] | (simp only [i64_w, i32_w]; rw [c18b0]) | skip)
                                have H' := Aside0.mk H
                                clear H
                                go_wp2
                                go_meet
                                case rel => exact ⟨_, (false), (by first | rfl | (simp; done) | (simp [*]; done) | (simp [wrap64]; done)), H', ⟨by have := HJ1.out; have := HK2.out; have := HK3.out; first | omega | exact Nat.le_refl _⟩, ⟨by repeat (first | (with_reducible first | exact HI0.out | apply IsS35.alloc | apply IsS35.drewN | apply IsS35.drew) | exact HI0.out)⟩, ⟨by repeat (first | (with_reducible first | exact HK.out | apply KeepBut.set_ | apply keep_drewN | apply keep_drew | apply keep_alloc) | exact HK.out)⟩, ⟨by repeat (first | (with_reducible first | exact HB.out | apply below_alloc | apply pw_below_drewN | apply below_drew1 | refine below_set ?_ (IsS35.ge HI0.out)) | exact HB.out)⟩⟩
                            case rest =>
                              clear HC16
                              try clear c1
                              try clear p1
                              try clear q1
                              try clear hx1
                              try clear c2
                              try clear p2
                              try clear c4
                              try clear c4b0
                              try clear c4b1
                              try clear c5
                              try clear c5b0
                              try clear c5b1
                              try clear c6
                              try clear c6b0
                              try clear c6b1
                              try clear c6b2
                              try clear p6
                              try clear c9
                              try clear c10
                              try clear c10b0
                              try clear p10
                              try clear q10
                              try clear hx10
                              try clear c11
                              try clear c11b0
                              try clear c12
                              try clear c12b0
                              try clear c13
                              try clear c13b0
                              try clear c14
                              try clear c15
                              try clear c15b0
                              try clear c18
                              try clear c18b0
                              try clear c18b1
                              try clear hcz17_0
                              try clear hcz17_1
                              try clear hcz17_2
                              try clear hcz3_0
                              try clear hcz3_1
                              try clear hcz3_2
                              try clear hcz7_0
                              try clear hcz7_1
                              try clear hcz7_2
                              try clear hcz8_0
                              try clear hcz8_1
                              try clear hcz8_2
                              try clear hx107_0
                              try clear hx107_1
                              try clear hx108_0
                              try clear hx108_1
                              try clear p107
                              try clear p108
                              try clear p2
                              try clear p6
                              try clear q107
                              try clear q108
                              obtain ⟨kq, x69_15, rfl, HA, HJ15, HI0, HK, HB⟩ := hcut
                              cases kq with
                              | zero => exact absurd HA.out (by simp [spec_l07Ok.j3])
                              | succ kj15 =>
                                have H := HA.out
                                clear HA
                                simp only [spec_l07Ok.j3] at H
                                by_cases c19 : x69_15 = true
                                · subst c19
                                  have H1 : (spec_l07Ok.l1 kj15 (s0_0.length : Int) x4_2 (wrap64 (0 + 1)) s0_0 s0_1 s0_2) = some r := by rw [if_pos rfl] at H; exact H
                                  clear H
                                  have H := H1
                                  clear H1
                                  have H' := Aside0.mk H
                                  clear H
                                  go_wp2
                                  go_roundg kj15
                                  case measure => have := HJ1.out; have := HK2.out; have := HK3.out; have := HJ15.out; omega
                                  case rel => exact ⟨(wrap64 (0 + 1)), (by first | rfl | (simp; done) | (simp [*]; done) | (simp [wrap64]; done)), H', ⟨by have := HJ1.out; have := HK2.out; have := HK3.out; have := HJ15.out; omega⟩, ⟨by repeat (first | (with_reducible first | exact HI0.out | apply IsS35.alloc | apply IsS35.drewN | apply IsS35.drew) | exact HI0.out)⟩, ⟨by repeat (first | (with_reducible first | exact HK.out | apply KeepBut.set_ | apply keep_drewN | apply keep_drew | apply keep_alloc) | exact HK.out)⟩, ⟨by repeat (first | (with_reducible first | exact HB.out | apply below_alloc | apply pw_below_drewN | apply below_drew1 | refine below_set ?_ (IsS35.ge HI0.out)) | exact HB.out)⟩⟩
                                · replace c19 := Bool.eq_false_iff.mpr c19
                                  subst c19
                                  have H1 : ((spec_l00In.f ((rd_T49 s0_1 x4_2).f0) 0 (wrap64 ((s0_0.length : Int) - 1))).bind fun t109 => (if t109 = true then (if ((rd_T50 s0_2 x4_2).f0).toList = ([97] : List UInt8) then (spec_l07Ok.l1 kj15 (s0_0.length : Int) x4_2 (wrap64 (0 + 1)) s0_0 s0_1 s0_2) else (if ((rd_T50 s0_2 x4_2).f0).toList = ([98] : List UInt8) then (spec_l07Ok.l1 kj15 (s0_0.length : Int) x4_2 (wrap64 (0 + 1)) s0_0 s0_1 s0_2) else (some false))) else (some false))) = some r := by rw [if_neg (show ¬ (false = true) by decide)] at H; exact H
                                  clear H
                                  have H := H1
                                  clear H1
                                  replace H := Option.bind_eq_some_iff.mp H
                                  obtain ⟨t109, A200, H⟩ := H
                                  replace H : (if t109 = true then (if ((rd_T50 s0_2 x4_2).f0).toList = ([97] : List UInt8) then (spec_l07Ok.l1 kj15 (s0_0.length : Int) x4_2 (wrap64 (0 + 1)) s0_0 s0_1 s0_2) else (if ((rd_T50 s0_2 x4_2).f0).toList = ([98] : List UInt8) then (spec_l07Ok.l1 kj15 (s0_0.length : Int) x4_2 (wrap64 (0 + 1)) s0_0 s0_1 s0_2) else (some false))) else (some false)) = some r := H
                                  have A20 := Aside0.mk A200
                                  clear A200
                                  by_cases c21 : t109 = true
                                  · subst c21
                                    have H1 : (if ((rd_T50 s0_2 x4_2).f0).toList = ([97] : List UInt8) then (spec_l07Ok.l1 kj15 (s0_0.length : Int) x4_2 (wrap64 (0 + 1)) s0_0 s0_1 s0_2) else (if ((rd_T50 s0_2 x4_2).f0).toList = ([98] : List UInt8) then (spec_l07Ok.l1 kj15 (s0_0.length : Int) x4_2 (wrap64 (0 + 1)) s0_0 s0_1 s0_2) else (some false))) = some r := by rw [if_pos rfl] at H; exact H
                                    clear H
                                    have H := H1
                                    clear H1
                                    by_cases c22 : ((rd_T50 s0_2 x4_2).f0).toList = ([97] : List UInt8)
                                    · rw [if_pos c22] at H
                                      have c22b0 : (((rd_T50 s0_2 x4_2).f0).toList == ([97] : List UInt8)) = true := beq_iff_eq.mpr c22
                                      have c22b1 : (((rd_T50 s0_2 x4_2).f0).toList != ([97] : List UInt8)) = false := bne_eq_false_iff_eq.mpr c22
                                      clear c22
                                      have H' := Aside0.mk H
                                      clear H
                                      go_wp2_with (first | ((with_reducible refine gate_callee (f := 32) rfl ?_); refine goesL_ (some 73) rfl rfl Try.func32 (by kernel_rfl) rfl #[.int .i64 ((rd_T49 s0_1 x4_2).f0), .int .i64 0, .int .i64 (wrap64 ((s0_0.length : Int) - 1))] rfl (by (try simp only [List.map_toArray, List.map_cons, List.map_nil]); first | done | rfl | (simp only [List.length_drop, List.length_take]; rfl)) ?_; (with_reducible refine (spec_l00In.calls ((rd_T49 s0_1 x4_2).f0) 0 (wrap64 ((s0_0.length : Int) - 1)) true _ A20.out).mono ?_); rintro e w' ⟨rfl, ⟨nd, rfl⟩⟩; refine ⟨_, rfl, ?_⟩))
                                      go_roundg kj15
                                      case measure => have := HJ1.out; have := HK2.out; have := HK3.out; have := HJ15.out; omega
                                      case rel => exact ⟨(wrap64 (0 + 1)), (by first | rfl | (simp; done) | (simp [*]; done) | (simp [wrap64]; done)), H', ⟨by have := HJ1.out; have := HK2.out; have := HK3.out; have := HJ15.out; omega⟩, ⟨by repeat (first | (with_reducible first | exact HI0.out | apply IsS35.alloc | apply IsS35.drewN | apply IsS35.drew) | exact HI0.out)⟩, ⟨by repeat (first | (with_reducible first | exact HK.out | apply KeepBut.set_ | apply keep_drewN | apply keep_drew | apply keep_alloc) | exact HK.out)⟩, ⟨by repeat (first | (with_reducible first | exact HB.out | apply below_alloc | apply pw_below_drewN | apply below_drew1 | refine below_set ?_ (IsS35.ge HI0.out)) | exact HB.out)⟩⟩
                                    · rw [if_neg c22] at H
                                      have c22b0 : (((rd_T50 s0_2 x4_2).f0).toList == ([97] : List UInt8)) = false := beq_eq_false_iff_ne.mpr c22
                                      have c22b1 : (((rd_T50 s0_2 x4_2).f0).toList != ([97] : List UInt8)) = true := bne_iff_ne.mpr c22
                                      by_cases c23 : ((rd_T50 s0_2 x4_2).f0).toList = ([98] : List UInt8)
                                      · rw [if_pos c23] at H
                                        have c23b0 : (((rd_T50 s0_2 x4_2).f0).toList == ([98] : List UInt8)) = true := beq_iff_eq.mpr c23
                                        have c23b1 : (((rd_T50 s0_2 x4_2).f0).toList != ([98] : List UInt8)) = false := bne_eq_false_iff_eq.mpr c23
                                        clear c23
                                        have H' := Aside0.mk H
                                        clear H
                                        go_wp2_with (first | ((with_reducible refine gate_callee (f := 32) rfl ?_); refine goesL_ (some 73) rfl rfl Try.func32 (by kernel_rfl) rfl #[.int .i64 ((rd_T49 s0_1 x4_2).f0), .int .i64 0, .int .i64 (wrap64 ((s0_0.length : Int) - 1))] rfl (by (try simp only [List.map_toArray, List.map_cons, List.map_nil]); first | done | rfl | (simp only [List.length_drop, List.length_take]; rfl)) ?_; (with_reducible refine (spec_l00In.calls ((rd_T49 s0_1 x4_2).f0) 0 (wrap64 ((s0_0.length : Int) - 1)) true _ A20.out).mono ?_); rintro e w' ⟨rfl, ⟨nd, rfl⟩⟩; refine ⟨_, rfl, ?_⟩))
                                        go_roundg kj15
                                        case measure => have := HJ1.out; have := HK2.out; have := HK3.out; have := HJ15.out; omega
                                        case rel => exact ⟨(wrap64 (0 + 1)), (by first | rfl | (simp; done) | (simp [*]; done) | (simp [wrap64]; done)), H', ⟨by have := HJ1.out; have := HK2.out; have := HK3.out; have := HJ15.out; omega⟩, ⟨by repeat (first | (with_reducible first | exact HI0.out | apply IsS35.alloc | apply IsS35.drewN | apply IsS35.drew) | exact HI0.out)⟩, ⟨by repeat (first | (with_reducible first | exact HK.out | apply KeepBut.set_ | apply keep_drewN | apply keep_drew | apply keep_alloc) | exact HK.out)⟩, ⟨by repeat (first | (with_reducible first | exact HB.out | apply below_alloc | apply pw_below_drewN | apply below_drew1 | refine below_set ?_ (IsS35.ge HI0.out)) | exact HB.out)⟩⟩
                                      · rw [if_neg c23] at H
                                        have c23b0 : (((rd_T50 s0_2 x4_2).f0).toList == ([98] : List UInt8)) = false := beq_eq_false_iff_ne.mpr c23
                                        have c23b1 : (((rd_T50 s0_2 x4_2).f0).toList != ([98] : List UInt8)) = true := bne_iff_ne.mpr c23
                                        obtain rfl := Option.some.inj H
                                        simp only [Option.some.injEq, Prod.mk.injEq] at H
                                        obtain ⟨rfl⟩ := H
                                        go_wp2_with (first | ((with_reducible refine gate_callee (f := 32) rfl ?_); refine goesL_ (some 73) rfl rfl Try.func32 (by kernel_rfl) rfl #[.int .i64 ((rd_T49 s0_1 x4_2).f0), .int .i64 0, .int .i64 (wrap64 ((s0_0.length : Int) - 1))] rfl (by (try simp only [List.map_toArray, List.map_cons, List.map_nil]); first | done | rfl | (simp only [List.length_drop, List.length_take]; rfl)) ?_; (with_reducible refine (spec_l00In.calls ((rd_T49 s0_1 x4_2).f0) 0 (wrap64 ((s0_0.length : Int) - 1)) true _ A20.out).mono ?_); rintro e w' ⟨rfl, ⟨nd, rfl⟩⟩; refine ⟨_, rfl, ?_⟩))
                                        go_ret
                                        exact ⟨by first | rfl | (simp [errW_none, errW_some] <;> rfl) | (simp [*, errW_none, errW_some] <;> rfl), by repeat (first | (with_reducible first | exact HI0.out | apply IsS35.alloc | apply IsS35.drewN | apply IsS35.drew) | exact HI0.out), by repeat (first | (with_reducible first | exact HB.out | apply below_alloc | apply pw_below_drewN | apply below_drew1 | refine below_set ?_ (IsS35.ge HI0.out)) | exact HB.out), by repeat (first | (with_reducible first | exact HK.out | apply KeepBut.set_ | apply keep_drewN | apply keep_drew | apply keep_alloc) | exact HK.out)⟩
                                  · replace c21 := Bool.eq_false_iff.mpr c21
                                    subst c21
                                    have H1 : (some false) = some r := by rw [if_neg (show ¬ (false = true) by decide)] at H; exact H
                                    clear H
                                    have H := H1
                                    clear H1
                                    obtain rfl := Option.some.inj H
                                    simp only [Option.some.injEq, Prod.mk.injEq] at H
                                    obtain ⟨rfl⟩ := H
                                    go_wp2_with (first | ((with_reducible refine gate_callee (f := 32) rfl ?_); refine goesL_ (some 73) rfl rfl Try.func32 (by kernel_rfl) rfl #[.int .i64 ((rd_T49 s0_1 x4_2).f0), .int .i64 0, .int .i64 (wrap64 ((s0_0.length : Int) - 1))] rfl (by (try simp only [List.map_toArray, List.map_cons, List.map_nil]); first | done | rfl | (simp only [List.length_drop, List.length_take]; rfl)) ?_; (with_reducible refine (spec_l00In.calls ((rd_T49 s0_1 x4_2).f0) 0 (wrap64 ((s0_0.length : Int) - 1)) false _ A20.out).mono ?_); rintro e w' ⟨rfl, ⟨nd, rfl⟩⟩; refine ⟨_, rfl, ?_⟩))
                                    go_ret
                                    exact ⟨by first | rfl | (simp [errW_none, errW_some] <;> rfl) | (simp [*, errW_none, errW_some] <;> rfl), by repeat (first | (with_reducible first | exact HI0.out | apply IsS35.alloc | apply IsS35.drewN | apply IsS35.drew) | exact HI0.out), by repeat (first | (with_reducible first | exact HB.out | apply below_alloc | apply pw_below_drewN | apply below_drew1 | refine below_set ?_ (IsS35.ge HI0.out)) | exact HB.out), by repeat (first | (with_reducible first | exact HK.out | apply KeepBut.set_ | apply keep_drewN | apply keep_drew | apply keep_alloc) | exact HK.out)⟩
                          · rw [if_neg c15] at H
                            exact absurd H (by simp)
                        · rw [if_neg c14] at H
                          clear c14
                          by_cases c24 : x5_3 = 1
                          · subst c24
                            have H1 : (if x4_2 < (s0_2.length : Int) then (if ((rd_T49 s0_1 x4_2).f1) = (-1) then (spec_l07Ok.j4 k3 (s0_0.length : Int) x4_2 1 ((rd_T49 s0_1 x4_2).f1) ((rd_T50 s0_2 x4_2).f1) (((rd_T50 s0_2 x4_2).f1).toList == ([] : List UInt8)) s0_0 s0_1 s0_2) else (spec_l07Ok.j4 k3 (s0_0.length : Int) x4_2 1 ((rd_T49 s0_1 x4_2).f1) ((rd_T50 s0_2 x4_2).f1) false s0_0 s0_1 s0_2)) else (none)) = some r := by rw [if_pos rfl] at H; exact H
                            clear H
                            have H := H1
                            clear H1
                            by_cases c25 : x4_2 < (s0_2.length : Int)
                            · rw [if_pos c25] at H
                              have c25b0 : decide (x4_2 < (s0_2.length : Int)) = true := decide_eq_true c25
                              clear c25
                              have HC26 := Aside0.mk H
                              clear H
                              obtain ⟨ASz27_0, cSz27_0, ASz27_1, cSz27_1, ASz27_2, cSz27_2, HGz27, hgz27, HSz27_0, HSz27_1, HSz27_2⟩ := HI0.out
                              have hcz27_0 := cellS35_0 HGz27
                              have hcz27_1 := cellS35_1 HGz27
                              have hcz27_2 := cellS35_2 HGz27
                              clear HGz27 hgz27
                              have p107 : 0 ≤ (x4_2 : Int) := of_decide_eq_true (by first | (with_reducible assumption) | assumption)
                              have q107 : x4_2 < (s0_1.length : Int) := of_decide_eq_true (by first | (with_reducible assumption) | assumption)
                              obtain ⟨ad107, e107, hx107_0, hx107_1⟩ := at_T49 HSz27_1 x4_2 p107 q107
                              cases e107
                              replace hx107_0 := pw_cell_below HB.out hx107_0
                              replace hx107_1 := pw_cell_below HB.out hx107_1
                              replace p107 := eq_true p107
                              replace q107 := eq_true q107
                              have p110 : 0 ≤ (x4_2 : Int) := of_decide_eq_true (by first | (with_reducible assumption) | assumption)
                              have q110 : x4_2 < (s0_2.length : Int) := of_decide_eq_true (by first | (with_reducible assumption) | assumption)
                              obtain ⟨ad110, e110, hx110_0, hx110_1⟩ := at_T50 HSz27_2 x4_2 p110 q110
                              cases e110
                              replace hx110_0 := pw_cell_below HB.out hx110_0
                              replace hx110_1 := pw_cell_below HB.out hx110_1
                              replace p110 := eq_true p110
                              replace q110 := eq_true q110
                              go_upto_region 12 with (fail)
                              go_cut [69] (fun v69 wc => ∃ (kq : Nat) (x69_25 : Bool), v69 = .bool x69_25 ∧ Aside0 (spec_l07Ok.j4 kq (s0_0.length : Int) x4_2 1 ((rd_T49 s0_1 x4_2).f1) ((rd_T50 s0_2 x4_2).f1) x69_25 s0_0 s0_1 s0_2 = some r) ∧ Aside0 (kq ≤ k3) ∧ Aside0 (IsS35 w0 wc g s0_0 s0_1 s0_2) ∧ Aside0 (KeepBut w wc g none) ∧ Aside0 (Below w0.heap.size w0 wc))
                              case first =>
                                have H := HC26.out
                                clear HC26
                                by_cases c28 : ((rd_T49 s0_1 x4_2).f1) = (-1)
                                · rw [if_pos c28] at H
                                  have c28b0 : (((rd_T49 s0_1 x4_2).f1) == (-1)) = true := beq_iff_eq.mpr c28
                                  have c28b1 : (((rd_T49 s0_1 x4_2).f1) != (-1)) = false := bne_eq_false_iff_eq.mpr c28
                                  clear c28
                                  (first | rw [c28b0] | (simp only [i64_w, i32_w]; rw [c28b0]) | skip)
                                  have H' := Aside0.mk H
                                  clear H
                                  go_wp2
                                  go_meet
                                  case rel => exact ⟨_, ((((rd_T50 s0_2 x4_2).f1).toList == ([] : List UInt8))), (by first | rfl | (simp; done) | (simp [*]; done) | (simp [wrap64]; done)), H', ⟨by have := HJ1.out; have := HK2.out; have := HK3.out; first | omega | exact Nat.le_refl _⟩, ⟨by repeat (first | (with_reducible first | exact HI0.out | apply IsS35.alloc | apply IsS35.drewN | apply IsS35.drew) | exact HI0.out)⟩, ⟨by repeat (first | (with_reducible first | exact HK.out | apply KeepBut.set_ | apply keep_drewN | apply keep_drew | apply keep_alloc) | exact HK.out)⟩, ⟨by repeat (first | (with_reducible first | exact HB.out | apply below_alloc | apply pw_below_drewN | apply below_drew1 | refine below_set ?_ (IsS35.ge HI0.out)) | exact HB.out)⟩⟩
                                · rw [if_neg c28] at H
                                  have c28b0 : (((rd_T49 s0_1 x4_2).f1) == (-1)) = false := beq_eq_false_iff_ne.mpr c28
                                  have c28b1 : (((rd_T49 s0_1 x4_2).f1) != (-1)) = true := bne_iff_ne.mpr c28
                                  (first | rw [c28b0] | (simp only [i64_w, i32_w]; rw [c28b0]) | skip)
                                  have H' := Aside0.mk H
                                  clear H
                                  go_wp2
                                  go_meet
                                  case rel => exact ⟨_, (false), (by first | rfl | (simp; done) | (simp [*]; done) | (simp [wrap64]; done)), H', ⟨by have := HJ1.out; have := HK2.out; have := HK3.out; first | omega | exact Nat.le_refl _⟩, ⟨by repeat (first | (with_reducible first | exact HI0.out | apply IsS35.alloc | apply IsS35.drewN | apply IsS35.drew) | exact HI0.out)⟩, ⟨by repeat (first | (with_reducible first | exact HK.out | apply KeepBut.set_ | apply keep_drewN | apply keep_drew | apply keep_alloc) | exact HK.out)⟩, ⟨by repeat (first | (with_reducible first | exact HB.out | apply below_alloc | apply pw_below_drewN | apply below_drew1 | refine below_set ?_ (IsS35.ge HI0.out)) | exact HB.out)⟩⟩
                              case rest =>
                                clear HC26
                                try clear c1
                                try clear p1
                                try clear q1
                                try clear hx1
                                try clear c2
                                try clear p2
                                try clear c3
                                try clear c4
                                try clear c4b0
                                try clear c4b1
                                try clear c5
                                try clear c5b0
                                try clear c5b1
                                try clear c6
                                try clear c6b0
                                try clear c6b1
                                try clear c6b2
                                try clear p6
                                try clear c9
                                try clear c10
                                try clear c10b0
                                try clear p10
                                try clear q10
                                try clear hx10
                                try clear c11
                                try clear c11b0
                                try clear p11
                                try clear q11
                                try clear hx11
                                try clear c12
                                try clear c12b0
                                try clear c13
                                try clear c13b0
                                try clear c14
                                try clear c15
                                try clear c15b0
                                try clear c18
                                try clear c18b0
                                try clear c18b1
                                try clear c19
                                try clear c21
                                try clear c22
                                try clear c22b0
                                try clear c22b1
                                try clear c23
                                try clear c23b0
                                try clear c23b1
                                try clear c24
                                try clear c25
                                try clear c25b0
                                try clear c28
                                try clear c28b0
                                try clear c28b1
                                try clear hcz17_0
                                try clear hcz17_1
                                try clear hcz17_2
                                try clear hcz27_0
                                try clear hcz27_1
                                try clear hcz27_2
                                try clear hcz3_0
                                try clear hcz3_1
                                try clear hcz3_2
                                try clear hcz7_0
                                try clear hcz7_1
                                try clear hcz7_2
                                try clear hcz8_0
                                try clear hcz8_1
                                try clear hcz8_2
                                try clear hx107_0
                                try clear hx107_1
                                try clear hx108_0
                                try clear hx108_1
                                try clear hx110_0
                                try clear hx110_1
                                try clear p1
                                try clear p10
                                try clear p107
                                try clear p108
                                try clear p110
                                try clear p2
                                try clear p6
                                try clear q1
                                try clear q10
                                try clear q107
                                try clear q108
                                try clear q110
                                obtain ⟨kq, x69_25, rfl, HA, HJ25, HI0, HK, HB⟩ := hcut
                                cases kq with
                                | zero => exact absurd HA.out (by simp [spec_l07Ok.j4])
                                | succ kj25 =>
                                  have H := HA.out
                                  clear HA
                                  simp only [spec_l07Ok.j4] at H
                                  by_cases c29 : x69_25 = true
                                  · subst c29
                                    have H1 : (spec_l07Ok.l1 kj25 (s0_0.length : Int) x4_2 (wrap64 (1 + 1)) s0_0 s0_1 s0_2) = some r := by rw [if_pos rfl] at H; exact H
                                    clear H
                                    have H := H1
                                    clear H1
                                    have H' := Aside0.mk H
                                    clear H
                                    go_wp2
                                    go_roundg kj25
                                    case measure => have := HJ1.out; have := HK2.out; have := HK3.out; have := HJ25.out; omega
                                    case rel => exact ⟨(wrap64 (1 + 1)), (by first | rfl | (simp; done) | (simp [*]; done) | (simp [wrap64]; done)), H', ⟨by have := HJ1.out; have := HK2.out; have := HK3.out; have := HJ25.out; omega⟩, ⟨by repeat (first | (with_reducible first | exact HI0.out | apply IsS35.alloc | apply IsS35.drewN | apply IsS35.drew) | exact HI0.out)⟩, ⟨by repeat (first | (with_reducible first | exact HK.out | apply KeepBut.set_ | apply keep_drewN | apply keep_drew | apply keep_alloc) | exact HK.out)⟩, ⟨by repeat (first | (with_reducible first | exact HB.out | apply below_alloc | apply pw_below_drewN | apply below_drew1 | refine below_set ?_ (IsS35.ge HI0.out)) | exact HB.out)⟩⟩
                                  · replace c29 := Bool.eq_false_iff.mpr c29
                                    subst c29
                                    have H1 : ((spec_l00In.f ((rd_T49 s0_1 x4_2).f1) 0 (wrap64 ((s0_0.length : Int) - 1))).bind fun t111 => (if t111 = true then (if ((rd_T50 s0_2 x4_2).f1).toList = ([97] : List UInt8) then (spec_l07Ok.l1 kj25 (s0_0.length : Int) x4_2 (wrap64 (1 + 1)) s0_0 s0_1 s0_2) else (if ((rd_T50 s0_2 x4_2).f1).toList = ([98] : List UInt8) then (spec_l07Ok.l1 kj25 (s0_0.length : Int) x4_2 (wrap64 (1 + 1)) s0_0 s0_1 s0_2) else (some false))) else (some false))) = some r := by rw [if_neg (show ¬ (false = true) by decide)] at H; exact H
                                    clear H
                                    have H := H1
                                    clear H1
                                    replace H := Option.bind_eq_some_iff.mp H
                                    obtain ⟨t111, A300, H⟩ := H
                                    replace H : (if t111 = true then (if ((rd_T50 s0_2 x4_2).f1).toList = ([97] : List UInt8) then (spec_l07Ok.l1 kj25 (s0_0.length : Int) x4_2 (wrap64 (1 + 1)) s0_0 s0_1 s0_2) else (if ((rd_T50 s0_2 x4_2).f1).toList = ([98] : List UInt8) then (spec_l07Ok.l1 kj25 (s0_0.length : Int) x4_2 (wrap64 (1 + 1)) s0_0 s0_1 s0_2) else (some false))) else (some false)) = some r := H
                                    have A30 := Aside0.mk A300
                                    clear A300
                                    by_cases c31 : t111 = true
                                    · subst c31
                                      have H1 : (if ((rd_T50 s0_2 x4_2).f1).toList = ([97] : List UInt8) then (spec_l07Ok.l1 kj25 (s0_0.length : Int) x4_2 (wrap64 (1 + 1)) s0_0 s0_1 s0_2) else (if ((rd_T50 s0_2 x4_2).f1).toList = ([98] : List UInt8) then (spec_l07Ok.l1 kj25 (s0_0.length : Int) x4_2 (wrap64 (1 + 1)) s0_0 s0_1 s0_2) else (some false))) = some r := by rw [if_pos rfl] at H; exact H
                                      clear H
                                      have H := H1
                                      clear H1
                                      by_cases c32 : ((rd_T50 s0_2 x4_2).f1).toList = ([97] : List UInt8)
                                      · rw [if_pos c32] at H
                                        have c32b0 : (((rd_T50 s0_2 x4_2).f1).toList == ([97] : List UInt8)) = true := beq_iff_eq.mpr c32
                                        have c32b1 : (((rd_T50 s0_2 x4_2).f1).toList != ([97] : List UInt8)) = false := bne_eq_false_iff_eq.mpr c32
                                        clear c32
                                        have H' := Aside0.mk H
                                        clear H
                                        go_wp2_with (first | ((with_reducible refine gate_callee (f := 32) rfl ?_); refine goesL_ (some 73) rfl rfl Try.func32 (by kernel_rfl) rfl #[.int .i64 ((rd_T49 s0_1 x4_2).f1), .int .i64 0, .int .i64 (wrap64 ((s0_0.length : Int) - 1))] rfl (by (try simp only [List.map_toArray, List.map_cons, List.map_nil]); first | done | rfl | (simp only [List.length_drop, List.length_take]; rfl)) ?_; (with_reducible refine (spec_l00In.calls ((rd_T49 s0_1 x4_2).f1) 0 (wrap64 ((s0_0.length : Int) - 1)) true _ A30.out).mono ?_); rintro e w' ⟨rfl, ⟨nd, rfl⟩⟩; refine ⟨_, rfl, ?_⟩))
                                        go_roundg kj25
                                        case measure => have := HJ1.out; have := HK2.out; have := HK3.out; have := HJ25.out; omega
                                        case rel => exact ⟨(wrap64 (1 + 1)), (by first | rfl | (simp; done) | (simp [*]; done) | (simp [wrap64]; done)), H', ⟨by have := HJ1.out; have := HK2.out; have := HK3.out; have := HJ25.out; omega⟩, ⟨by repeat (first | (with_reducible first | exact HI0.out | apply IsS35.alloc | apply IsS35.drewN | apply IsS35.drew) | exact HI0.out)⟩, ⟨by repeat (first | (with_reducible first | exact HK.out | apply KeepBut.set_ | apply keep_drewN | apply keep_drew | apply keep_alloc) | exact HK.out)⟩, ⟨by repeat (first | (with_reducible first | exact HB.out | apply below_alloc | apply pw_below_drewN | apply below_drew1 | refine below_set ?_ (IsS35.ge HI0.out)) | exact HB.out)⟩⟩
                                      · rw [if_neg c32] at H
                                        have c32b0 : (((rd_T50 s0_2 x4_2).f1).toList == ([97] : List UInt8)) = false := beq_eq_false_iff_ne.mpr c32
                                        have c32b1 : (((rd_T50 s0_2 x4_2).f1).toList != ([97] : List UInt8)) = true := bne_iff_ne.mpr c32
                                        by_cases c33 : ((rd_T50 s0_2 x4_2).f1).toList = ([98] : List UInt8)
                                        · rw [if_pos c33] at H
                                          have c33b0 : (((rd_T50 s0_2 x4_2).f1).toList == ([98] : List UInt8)) = true := beq_iff_eq.mpr c33
                                          have c33b1 : (((rd_T50 s0_2 x4_2).f1).toList != ([98] : List UInt8)) = false := bne_eq_false_iff_eq.mpr c33
                                          clear c33
                                          have H' := Aside0.mk H
                                          clear H
                                          go_wp2_with (first | ((with_reducible refine gate_callee (f := 32) rfl ?_); refine goesL_ (some 73) rfl rfl Try.func32 (by kernel_rfl) rfl #[.int .i64 ((rd_T49 s0_1 x4_2).f1), .int .i64 0, .int .i64 (wrap64 ((s0_0.length : Int) - 1))] rfl (by (try simp only [List.map_toArray, List.map_cons, List.map_nil]); first | done | rfl | (simp only [List.length_drop, List.length_take]; rfl)) ?_; (with_reducible refine (spec_l00In.calls ((rd_T49 s0_1 x4_2).f1) 0 (wrap64 ((s0_0.length : Int) - 1)) true _ A30.out).mono ?_); rintro e w' ⟨rfl, ⟨nd, rfl⟩⟩; refine ⟨_, rfl, ?_⟩))
                                          go_roundg kj25
                                          case measure => have := HJ1.out; have := HK2.out; have := HK3.out; have := HJ25.out; omega
                                          case rel => exact ⟨(wrap64 (1 + 1)), (by first | rfl | (simp; done) | (simp [*]; done) | (simp [wrap64]; done)), H', ⟨by have := HJ1.out; have := HK2.out; have := HK3.out; have := HJ25.out; omega⟩, ⟨by repeat (first | (with_reducible first | exact HI0.out | apply IsS35.alloc | apply IsS35.drewN | apply IsS35.drew) | exact HI0.out)⟩, ⟨by repeat (first | (with_reducible first | exact HK.out | apply KeepBut.set_ | apply keep_drewN | apply keep_drew | apply keep_alloc) | exact HK.out)⟩, ⟨by repeat (first | (with_reducible first | exact HB.out | apply below_alloc | apply pw_below_drewN | apply below_drew1 | refine below_set ?_ (IsS35.ge HI0.out)) | exact HB.out)⟩⟩
                                        · rw [if_neg c33] at H
                                          have c33b0 : (((rd_T50 s0_2 x4_2).f1).toList == ([98] : List UInt8)) = false := beq_eq_false_iff_ne.mpr c33
                                          have c33b1 : (((rd_T50 s0_2 x4_2).f1).toList != ([98] : List UInt8)) = true := bne_iff_ne.mpr c33
                                          obtain rfl := Option.some.inj H
                                          simp only [Option.some.injEq, Prod.mk.injEq] at H
                                          obtain ⟨rfl⟩ := H
                                          go_wp2_with (first | ((with_reducible refine gate_callee (f := 32) rfl ?_); refine goesL_ (some 73) rfl rfl Try.func32 (by kernel_rfl) rfl #[.int .i64 ((rd_T49 s0_1 x4_2).f1), .int .i64 0, .int .i64 (wrap64 ((s0_0.length : Int) - 1))] rfl (by (try simp only [List.map_toArray, List.map_cons, List.map_nil]); first | done | rfl | (simp only [List.length_drop, List.length_take]; rfl)) ?_; (with_reducible refine (spec_l00In.calls ((rd_T49 s0_1 x4_2).f1) 0 (wrap64 ((s0_0.length : Int) - 1)) true _ A30.out).mono ?_); rintro e w' ⟨rfl, ⟨nd, rfl⟩⟩; refine ⟨_, rfl, ?_⟩))
                                          go_ret
                                          exact ⟨by first | rfl | (simp [errW_none, errW_some] <;> rfl) | (simp [*, errW_none, errW_some] <;> rfl), by repeat (first | (with_reducible first | exact HI0.out | apply IsS35.alloc | apply IsS35.drewN | apply IsS35.drew) | exact HI0.out), by repeat (first | (with_reducible first | exact HB.out | apply below_alloc | apply pw_below_drewN | apply below_drew1 | refine below_set ?_ (IsS35.ge HI0.out)) | exact HB.out), by repeat (first | (with_reducible first | exact HK.out | apply KeepBut.set_ | apply keep_drewN | apply keep_drew | apply keep_alloc) | exact HK.out)⟩
                                    · replace c31 := Bool.eq_false_iff.mpr c31
                                      subst c31
                                      have H1 : (some false) = some r := by rw [if_neg (show ¬ (false = true) by decide)] at H; exact H
                                      clear H
                                      have H := H1
                                      clear H1
                                      obtain rfl := Option.some.inj H
                                      simp only [Option.some.injEq, Prod.mk.injEq] at H
                                      obtain ⟨rfl⟩ := H
                                      go_wp2_with (first | ((with_reducible refine gate_callee (f := 32) rfl ?_); refine goesL_ (some 73) rfl rfl Try.func32 (by kernel_rfl) rfl #[.int .i64 ((rd_T49 s0_1 x4_2).f1), .int .i64 0, .int .i64 (wrap64 ((s0_0.length : Int) - 1))] rfl (by (try simp only [List.map_toArray, List.map_cons, List.map_nil]); first | done | rfl | (simp only [List.length_drop, List.length_take]; rfl)) ?_; (with_reducible refine (spec_l00In.calls ((rd_T49 s0_1 x4_2).f1) 0 (wrap64 ((s0_0.length : Int) - 1)) false _ A30.out).mono ?_); rintro e w' ⟨rfl, ⟨nd, rfl⟩⟩; refine ⟨_, rfl, ?_⟩))
                                      go_ret
                                      exact ⟨by first | rfl | (simp [errW_none, errW_some] <;> rfl) | (simp [*, errW_none, errW_some] <;> rfl), by repeat (first | (with_reducible first | exact HI0.out | apply IsS35.alloc | apply IsS35.drewN | apply IsS35.drew) | exact HI0.out), by repeat (first | (with_reducible first | exact HB.out | apply below_alloc | apply pw_below_drewN | apply below_drew1 | refine below_set ?_ (IsS35.ge HI0.out)) | exact HB.out), by repeat (first | (with_reducible first | exact HK.out | apply KeepBut.set_ | apply keep_drewN | apply keep_drew | apply keep_alloc) | exact HK.out)⟩
                            · rw [if_neg c25] at H
                              exact absurd H (by simp)
                          · rw [if_neg c24] at H
                            clear c24
                            exact absurd H (by simp)
                      · rw [if_neg c13] at H
                        exact absurd H (by simp)
                    · rw [if_neg c12] at H
                      exact absurd H (by simp)
                  · rw [if_neg c11] at H
                    have c11b0 : decide (x5_3 < 2) = false := decide_eq_false c11
                    clear c11
                    have H' := Aside0.mk H
                    clear H
                    go_wp2
                    go_roundg k3
                    case measure => have := HJ1.out; have := HK2.out; have := HK3.out; omega
                    case rel => exact ⟨(wrap64 (x4_2 + 1)), (by first | rfl | (simp; done) | (simp [*]; done) | (simp [wrap64]; done)), H', ⟨by have := HJ1.out; have := HK2.out; have := HK3.out; omega⟩, ⟨by repeat (first | (with_reducible first | exact HI0.out | apply IsS35.alloc | apply IsS35.drewN | apply IsS35.drew) | exact HI0.out)⟩, ⟨by repeat (first | (with_reducible first | exact HK.out | apply KeepBut.set_ | apply keep_drewN | apply keep_drew | apply keep_alloc) | exact HK.out)⟩, ⟨by repeat (first | (with_reducible first | exact HB.out | apply below_alloc | apply pw_below_drewN | apply below_drew1 | refine below_set ?_ (IsS35.ge HI0.out)) | exact HB.out)⟩⟩
            · rw [if_neg c10] at H
              have c10b0 : decide (x4_2 < (s0_0.length : Int)) = false := decide_eq_false c10
              clear c10
              obtain rfl := Option.some.inj H
              simp only [Option.some.injEq, Prod.mk.injEq] at H
              obtain ⟨rfl⟩ := H
              go_wp2
              go_ret
              exact ⟨by first | rfl | (simp [errW_none, errW_some] <;> rfl) | (simp [*, errW_none, errW_some] <;> rfl), by repeat (first | (with_reducible first | exact HI0.out | apply IsS35.alloc | apply IsS35.drewN | apply IsS35.drew) | exact HI0.out), by repeat (first | (with_reducible first | exact HB.out | apply below_alloc | apply pw_below_drewN | apply below_drew1 | refine below_set ?_ (IsS35.ge HI0.out)) | exact HB.out), by repeat (first | (with_reducible first | exact HK.out | apply KeepBut.set_ | apply keep_drewN | apply keep_drew | apply keep_alloc) | exact HK.out)⟩

-- NOT PRINTED: function 10 (spec_ValidScribe)

end Go.Proofs.Ytnlcddjdedidlaa.PScA
