/- The texts of deeds: the program's and the reference's, by hand where a region of open order makes memory and reads it. -/
import Derived.Test.YtnlcddjdedidlaaDoorPDtAx
import Derived.Test.YtnlcddjdedidlaaDoorText
import Derived.Deep.RegionWith
import Derived.Deep.RegionHeld3
import Derived.WalkSpells
import Derived.Outline
import Derived.RangeFuncRecord
namespace Go.Proofs.YtnlcddjdedidlaaDoor.Deed
open Go.Proofs.YtnlcddjdedidlaaDoor.PDtA Go.RowKit Go.Proofs.YtnlcddjdedidlaaDoorW.PrintWords Go.Proofs.YtnlcddjdedidlaaDoorW.PrintLast Go.Proofs.YtnlcddjdedidlaaDoorW.PrintMore Go.Proofs.YtnlcddjdedidlaaDoor.Txt
/-- The words of the deeds. -/
def word (k : Int) : ByteArray := if k = 1 then ⟨#[97, 115, 107]⟩ else if k = 2 then ⟨#[100, 101, 108, 105, 118, 101, 114]⟩ else if k = 3 then ⟨#[99, 111, 112, 121]⟩ else if k = 4 then ⟨#[100, 114, 111, 112]⟩ else if k = 5 then ⟨#[115, 97, 118, 101]⟩ else if k = 6 then ⟨#[99, 114, 97, 115, 104]⟩ else ByteArray.empty
theorem dw (w : World) : Calls Tryd.prog 14 #[] w fun e w' => e = .returned (.slice (some ⟨w.heap.size, 0, none⟩) 7 7) ∧ w' = w.alloc (.cells #[.string ⟨#[]⟩, .string ⟨#[97, 115, 107]⟩, .string ⟨#[100, 101, 108, 105, 118, 101, 114]⟩, .string ⟨#[99, 111, 112, 121]⟩, .string ⟨#[100, 114, 111, 112]⟩, .string ⟨#[115, 97, 118, 101]⟩, .string ⟨#[99, 114, 97, 115, 104]⟩] 9) := by
  go_enter Tryd.func14, Tryd.ntmps14
  go_wp2
  go_ret
  exact ⟨rfl, rfl⟩
theorem lw (w : World) : Calls Tryd.prog 8 #[] w fun e w' => e = .returned (.slice (some ⟨w.heap.size, 0, none⟩) 7 7) ∧ w' = w.alloc (.cells #[.string ⟨#[]⟩, .string ⟨#[97, 115, 107]⟩, .string ⟨#[100, 101, 108, 105, 118, 101, 114]⟩, .string ⟨#[99, 111, 112, 121]⟩, .string ⟨#[100, 114, 111, 112]⟩, .string ⟨#[115, 97, 118, 101]⟩, .string ⟨#[99, 114, 97, 115, 104]⟩] 9) := by
  go_enter Tryd.func8, Tryd.ntmps8
  go_wp2
  go_ret
  exact ⟨rfl, rfl⟩
theorem after {w1 w2 : World} (hb : Below w1.heap.size w1 w2) {p : Addr} {v : Value} (hp : p.block < w1.heap.size) (hc : w1.cell? p = some v) : w2.cell? p = some v := by rw [Below.cell hb hp]; exact hc
set_option maxHeartbeats 8000000 in
theorem it (k : Nat) (hk7 : k < 7) (u a : Int) (hu : u = (k : Int)) (s0 s : ByteArray) (w : World) (hs : s.size ≤ 1000) (hs0 : s0.size ≤ 1000) (hk : (#[.string ⟨#[]⟩, .string ⟨#[97, 115, 107]⟩, .string ⟨#[100, 101, 108, 105, 118, 101, 114]⟩, .string ⟨#[99, 111, 112, 121]⟩, .string ⟨#[100, 114, 111, 112]⟩, .string ⟨#[115, 97, 118, 101]⟩, .string ⟨#[99, 114, 97, 115, 104]⟩] : Array Value)[k]? = some (.string s0))
    (hD : ∀ W, Below w.heap.size w W → Calls Tryd.prog 15 #[.int .i64 a] W fun e w' => e = .returned (.string s) ∧ Below W.heap.size W w') :
    Calls Tryd.prog 11 #[.agg #[.int .i64 u, .int .i64 a]] w fun e w' => e = .returned (.string (s0 ++ ⟨#[32]⟩ ++ s)) ∧ Below w.heap.size w w' := by
  subst hu
  have hz : (s0 ++ ByteArray.mk #[32]).size ≤ 1001 := by rw [ByteArray.size_append]; have : (ByteArray.mk #[32]).size = 1 := rfl; omega
  have hz1 : (s0.size + 1 ≤ 9223372036854775807) = True := by simp; omega
  have hz2 : ((s0 ++ ByteArray.mk #[32]).size + s.size ≤ 9223372036854775807) = True := eq_true (by omega)
  have hz3 : (s0.size + (ByteArray.mk #[32]).size ≤ 9223372036854775807) = True := by simp only [eq_iff_iff, iff_true]; have : (ByteArray.mk #[32]).size = 1 := rfl; omega
  have hk3 : ((k : Int) < 7) = True := by simp; omega
  have hk0 : ((k : Int) < 0) = False := by simp
  have hk4 : (0 ≤ (k : Int)) = True := by simp
  have h2 : ((w.alloc (.cells #[.int .i64 (k : Int), .int .i64 a] 25)).alloc (.cells #[.string ⟨#[]⟩, .string ⟨#[97, 115, 107]⟩, .string ⟨#[100, 101, 108, 105, 118, 101, 114]⟩, .string ⟨#[99, 111, 112, 121]⟩, .string ⟨#[100, 114, 111, 112]⟩, .string ⟨#[115, 97, 118, 101]⟩, .string ⟨#[99, 114, 97, 115, 104]⟩] 9)).cell? ⟨w.heap.size + 1, k, none⟩ = some (.string s0) := (blk_cell (t := 9) (by have := World.alloc_heap_new (w.alloc (.cells #[.int .i64 (k : Int), .int .i64 a] 25)) (.cells #[.string ⟨#[]⟩, .string ⟨#[97, 115, 107]⟩, .string ⟨#[100, 101, 108, 105, 118, 101, 114]⟩, .string ⟨#[99, 111, 112, 121]⟩, .string ⟨#[100, 114, 111, 112]⟩, .string ⟨#[115, 97, 118, 101]⟩, .string ⟨#[99, 114, 97, 115, 104]⟩] 9); rwa [World.size_alloc] at this) k).trans hk
  go_enter Tryd.func11, Tryd.ntmps11
  go_wp2
  go_region_with (first
    | (go_at_call 14; refine (dw _).mono ?_; rintro e w' ⟨rfl, rfl⟩)
    | (go_at_call 15; refine (hD _ (by repeat (first | exact Below.refl _ _ | assumption | apply below_alloc | apply pw_below_drewN | apply below_drew1))).mono ?_; rintro e w' ⟨rfl, hb⟩; have hB : Below w.heap.size w w' := below_step (by repeat (first | exact Below.refl _ _ | assumption | apply below_alloc | apply pw_below_drewN | apply below_drew1)) hb; have h0 := after hb (p := ⟨w.heap.size, 0, none⟩) (v := .int .i64 k) (by simp <;> omega) (by simp [go_sem]; done); have h1 := after hb (p := ⟨w.heap.size, 1, none⟩) (v := .int .i64 a) (by simp <;> omega) (by simp [go_sem]; done); have h3 := after hb (p := ⟨w.heap.size + 1, k, none⟩) (v := .string s0) (by simp <;> omega) (by first | exact h2 | (simp [h2]; done))))
  all_goals go_wp2_with fail
  all_goals go_ret
  all_goals exact ⟨rfl, by repeat (first | exact Below.refl _ _ | assumption | apply below_alloc | apply pw_below_drewN | apply below_drew1)⟩
set_option maxHeartbeats 8000000 in
theorem st (k : Nat) (hk7 : k < 7) (u a : Int) (hu : u = (k : Int)) (s0 s : ByteArray) (w : World) (hs : s.size ≤ 1000) (hs0 : s0.size ≤ 1000) (hk : (#[.string ⟨#[]⟩, .string ⟨#[97, 115, 107]⟩, .string ⟨#[100, 101, 108, 105, 118, 101, 114]⟩, .string ⟨#[99, 111, 112, 121]⟩, .string ⟨#[100, 114, 111, 112]⟩, .string ⟨#[115, 97, 118, 101]⟩, .string ⟨#[99, 114, 97, 115, 104]⟩] : Array Value)[k]? = some (.string s0)) (hV : spec_l08Deed.f u a = some true)
    (hD : ∀ W, Below w.heap.size w W → Calls Tryd.prog 9 #[.int .i64 a] W fun e w' => e = .returned (.string s) ∧ Below W.heap.size W w') :
    Calls Tryd.prog 4 #[.agg #[.int .i64 u, .int .i64 a]] w fun e w' => e = .returned (.string (s0 ++ ⟨#[32]⟩ ++ s)) ∧ Below w.heap.size w w' := by
  subst hu
  have hz : (s0 ++ ByteArray.mk #[32]).size ≤ 1001 := by rw [ByteArray.size_append]; have : (ByteArray.mk #[32]).size = 1 := rfl; omega
  have hz1 : (s0.size + 1 ≤ 9223372036854775807) = True := by simp; omega
  have hz2 : ((s0 ++ ByteArray.mk #[32]).size + s.size ≤ 9223372036854775807) = True := eq_true (by omega)
  have hz3 : (s0.size + (ByteArray.mk #[32]).size ≤ 9223372036854775807) = True := by simp only [eq_iff_iff, iff_true]; have : (ByteArray.mk #[32]).size = 1 := rfl; omega
  have hk3 : ((k : Int) < 7) = True := by simp; omega
  have hk0 : ((k : Int) < 0) = False := by simp
  have hk4 : (0 ≤ (k : Int)) = True := by simp
  go_enter Tryd.func4, Tryd.ntmps4
  go_wp2_with (go_at_call 7; refine (spec_l08Deed.calls _ _ true _ hV).mono ?_; rintro e w1 ⟨rfl, hb1⟩; have e0 := after hb1 (p := ⟨w.heap.size, 0, none⟩) (v := .int .i64 k) (by simp <;> omega) (by simp [go_sem]; done); have e1 := after hb1 (p := ⟨w.heap.size, 1, none⟩) (v := .int .i64 a) (by simp <;> omega) (by simp [go_sem]; done); have hB1 : Below w.heap.size w w1 := below_step (by repeat (first | exact Below.refl _ _ | assumption | apply below_alloc | apply pw_below_drewN | apply below_drew1)) hb1; have hz1 : w.heap.size < w1.heap.size := Nat.lt_of_lt_of_le (by simp <;> omega) hb1.size)
  have h2 : (w1.alloc (.cells #[.string ⟨#[]⟩, .string ⟨#[97, 115, 107]⟩, .string ⟨#[100, 101, 108, 105, 118, 101, 114]⟩, .string ⟨#[99, 111, 112, 121]⟩, .string ⟨#[100, 114, 111, 112]⟩, .string ⟨#[115, 97, 118, 101]⟩, .string ⟨#[99, 114, 97, 115, 104]⟩] 9)).cell? ⟨w1.heap.size, k, none⟩ = some (.string s0) := (blk_cell (t := 9) (World.alloc_heap_new w1 (.cells #[.string ⟨#[]⟩, .string ⟨#[97, 115, 107]⟩, .string ⟨#[100, 101, 108, 105, 118, 101, 114]⟩, .string ⟨#[99, 111, 112, 121]⟩, .string ⟨#[100, 114, 111, 112]⟩, .string ⟨#[115, 97, 118, 101]⟩, .string ⟨#[99, 114, 97, 115, 104]⟩] 9)) k).trans hk
  have g0 : (w1.alloc (.cells #[.string ⟨#[]⟩, .string ⟨#[97, 115, 107]⟩, .string ⟨#[100, 101, 108, 105, 118, 101, 114]⟩, .string ⟨#[99, 111, 112, 121]⟩, .string ⟨#[100, 114, 111, 112]⟩, .string ⟨#[115, 97, 118, 101]⟩, .string ⟨#[99, 114, 97, 115, 104]⟩] 9)).cell? ⟨w.heap.size, 0, none⟩ = some (.int .i64 (k : Int)) := after (below_alloc (Below.refl _ _) _) hz1 e0
  have g1 : (w1.alloc (.cells #[.string ⟨#[]⟩, .string ⟨#[97, 115, 107]⟩, .string ⟨#[100, 101, 108, 105, 118, 101, 114]⟩, .string ⟨#[99, 111, 112, 121]⟩, .string ⟨#[100, 114, 111, 112]⟩, .string ⟨#[115, 97, 118, 101]⟩, .string ⟨#[99, 114, 97, 115, 104]⟩] 9)).cell? ⟨w.heap.size, 1, none⟩ = some (.int .i64 a) := after (below_alloc (Below.refl _ _) _) hz1 e1
  go_region_with (first
    | (go_at_call 8; refine (lw _).mono ?_; rintro e w' ⟨rfl, rfl⟩)
    | (go_at_call 9; refine (hD _ (by repeat (first | exact Below.refl _ _ | assumption | apply below_alloc | apply pw_below_drewN | apply below_drew1))).mono ?_; rintro e w' ⟨rfl, hb⟩; have hB : Below w.heap.size w w' := below_step (by repeat (first | exact Below.refl _ _ | assumption | apply below_alloc | apply pw_below_drewN | apply below_drew1)) hb; have h0 := after hb (p := ⟨w.heap.size, 0, none⟩) (v := .int .i64 k) (by simp <;> omega) (by simp [g0]; done); have h1 := after hb (p := ⟨w.heap.size, 1, none⟩) (v := .int .i64 a) (by simp <;> omega) (by simp [g1]; done); have h3 := after hb (p := ⟨w1.heap.size, k, none⟩) (v := .string s0) (by simp <;> omega) (by first | exact h2 | (simp [h2]; done))))
  all_goals go_wp2_with fail
  all_goals go_ret
  all_goals exact ⟨rfl, by repeat (first | exact Below.refl _ _ | assumption | apply below_alloc | apply pw_below_drewN | apply below_drew1)⟩
end Go.Proofs.YtnlcddjdedidlaaDoor.Deed
