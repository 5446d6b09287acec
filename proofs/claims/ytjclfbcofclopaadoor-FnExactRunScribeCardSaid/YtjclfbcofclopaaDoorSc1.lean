/- Arrays of two: compared, copied, measured. No condition. -/
import Derived.Test.YtjclfbcofclopaaDoorWWords
import Derived.Test.YtjclfbcofclopaaDoorProg
import Derived.WalkKit
import Derived.WalkSpells
import Derived.WalkLawsBesides
import Derived.Deep.LoopGhost
import Derived.Deep.QuietTactic
import Derived.BigQuiet
import Derived.KernelRfl
import Derived.Lib.Hide

import Derived.Lib.SlicesS
namespace Go.Proofs.YtjclfbcofclopaaDoor.Sc
open Go.RowKit Go.Proofs.YtjclfbcofclopaaDoorW.PrintWords
theorem ret_bool {a b : Bool} (h : a = b) : Ending.returned (.bool a) = .returned (.bool b) := by rw [h]
theorem ret_i64 {a b : Int} (h : a = b) : Ending.returned (.int .i64 a) = .returned (.int .i64 b) := by rw [h]
set_option maxHeartbeats 4000000 in
theorem eqI2 (a0 a1 b0 b1 : Int) (w : World) : Calls Tryd.prog 120 #[.agg #[.int .i64 a0, .int .i64 a1], .agg #[.int .i64 b0, .int .i64 b1]] w fun e w' => e = .returned (.bool (decide ((a0, a1) = (b0, b1)))) ∧ Below w.heap.size w w' := by
  by_cases h0 : a0 = b0
  · by_cases h1 : a1 = b1
    ·
      have e0 : (a0 != b0) = false := by simpa using h0
      have e1 : (a1 != b1) = false := by simpa using h1
      have R := Lib.hid (show true = decide ((a0, a1) = (b0, b1)) by simp [h0, h1])
      clear h0 h1
      go_enter Tryd.func120, Tryd.ntmps120
      go_wp2
      refine wp_loop_rounds 3 ?_
      rw [rounds_succ]
      go_wp2
      go_quiet (fail)
      go_wp2
      rw [rounds_succ]
      go_wp2
      go_quiet (fail)
      go_wp2
      rw [rounds_succ]
      go_wp2
      go_ret
      exact ⟨ret_bool R.out, by repeat (first | exact Below.refl _ _ | apply below_alloc | apply pw_below_drewN | apply below_drew1)⟩
    ·
      have e0 : (a0 != b0) = false := by simpa using h0
      have e1 : (a1 != b1) = true := by simpa using h1
      have R := Lib.hid (show false = decide ((a0, a1) = (b0, b1)) by simp [h0, h1])
      clear h0 h1
      go_enter Tryd.func120, Tryd.ntmps120
      go_wp2
      refine wp_loop_rounds 3 ?_
      rw [rounds_succ]
      go_wp2
      go_quiet (fail)
      go_wp2
      rw [rounds_succ]
      go_wp2
      go_quiet (fail)
      go_wp2
      go_ret
      exact ⟨ret_bool R.out, by repeat (first | exact Below.refl _ _ | apply below_alloc | apply pw_below_drewN | apply below_drew1)⟩
  ·
    have e0 : (a0 != b0) = true := by simpa using h0
    have R := Lib.hid (show false = decide ((a0, a1) = (b0, b1)) by simp [h0])
    clear h0
    go_enter Tryd.func120, Tryd.ntmps120
    go_wp2
    refine wp_loop_rounds 3 ?_
    rw [rounds_succ]
    go_wp2
    go_quiet (fail)
    go_wp2
    go_ret
    exact ⟨ret_bool R.out, by repeat (first | exact Below.refl _ _ | apply below_alloc | apply pw_below_drewN | apply below_drew1)⟩
set_option maxHeartbeats 4000000 in
theorem eqS2 (a0 a1 b0 b1 : ByteArray) (w : World) : Calls Tryd.prog 121 #[.agg #[.string a0, .string a1], .agg #[.string b0, .string b1]] w fun e w' => e = .returned (.bool (decide ((a0, a1) = (b0, b1)))) ∧ Below w.heap.size w w' := by
  by_cases h0 : a0 = b0
  · by_cases h1 : a1 = b1
    ·
      have e0 : (a0.toList == b0.toList) = true := (Lib.bytes_beq_iff _ _).2 h0
      have e1 : (a1.toList == b1.toList) = true := (Lib.bytes_beq_iff _ _).2 h1
      have R := Lib.hid (show true = decide ((a0, a1) = (b0, b1)) by simp [h0, h1])
      clear h0 h1
      go_enter Tryd.func121, Tryd.ntmps121
      go_wp2
      refine wp_loop_rounds 3 ?_
      rw [rounds_succ]
      go_wp2
      go_quiet (fail)
      go_wp2
      rw [rounds_succ]
      go_wp2
      go_quiet (fail)
      go_wp2
      rw [rounds_succ]
      go_wp2
      go_ret
      exact ⟨ret_bool R.out, by repeat (first | exact Below.refl _ _ | apply below_alloc | apply pw_below_drewN | apply below_drew1)⟩
    ·
      have e0 : (a0.toList == b0.toList) = true := (Lib.bytes_beq_iff _ _).2 h0
      have e1 : (a1.toList == b1.toList) = false := (Lib.bytes_beq_false_iff _ _).2 h1
      have R := Lib.hid (show false = decide ((a0, a1) = (b0, b1)) by simp [h0, h1])
      clear h0 h1
      go_enter Tryd.func121, Tryd.ntmps121
      go_wp2
      refine wp_loop_rounds 3 ?_
      rw [rounds_succ]
      go_wp2
      go_quiet (fail)
      go_wp2
      rw [rounds_succ]
      go_wp2
      go_quiet (fail)
      go_wp2
      go_ret
      exact ⟨ret_bool R.out, by repeat (first | exact Below.refl _ _ | apply below_alloc | apply pw_below_drewN | apply below_drew1)⟩
  ·
    have e0 : (a0.toList == b0.toList) = false := (Lib.bytes_beq_false_iff _ _).2 h0
    have R := Lib.hid (show false = decide ((a0, a1) = (b0, b1)) by simp [h0])
    clear h0
    go_enter Tryd.func121, Tryd.ntmps121
    go_wp2
    refine wp_loop_rounds 3 ?_
    rw [rounds_succ]
    go_wp2
    go_quiet (fail)
    go_wp2
    go_ret
    exact ⟨ret_bool R.out, by repeat (first | exact Below.refl _ _ | apply below_alloc | apply pw_below_drewN | apply below_drew1)⟩
set_option maxHeartbeats 4000000 in
theorem toI2 (a0 a1 : Int) (w : World) : Calls Tryd.prog 117 #[.agg #[.int .i64 a0, .int .i64 a1]] w fun e w' => e = .returned (.agg #[.int .i64 a0, .int .i64 a1]) ∧ Below w.heap.size w w' := by
  go_enter Tryd.func117, Tryd.ntmps117
  go_wp2
  refine wp_loop_rounds 3 ?_
  rw [rounds_succ]
  go_wp2
  rw [rounds_succ]
  go_wp2
  rw [rounds_succ]
  go_wp2
  exact bodyPost_ret (v := .agg #[.int .i64 a0, .int .i64 a1]) (by simp [results, Tryd.results117, go_sem]) rfl ⟨rfl, by repeat (first | exact Below.refl _ _ | apply below_alloc | apply pw_below_drewN | apply below_drew1 | (refine Below.setCell ?_ (by simp) _))⟩
set_option maxHeartbeats 4000000 in
theorem toS2 (a0 a1 : ByteArray) (w : World) : Calls Tryd.prog 118 #[.agg #[.string a0, .string a1]] w fun e w' => e = .returned (.agg #[.string a0, .string a1]) ∧ Below w.heap.size w w' := by
  go_enter Tryd.func118, Tryd.ntmps118
  go_wp2
  refine wp_loop_rounds 3 ?_
  rw [rounds_succ]
  go_wp2
  rw [rounds_succ]
  go_wp2
  rw [rounds_succ]
  go_wp2
  exact bodyPost_ret (v := .agg #[.string a0, .string a1]) (by simp [results, Tryd.results118, go_sem]) rfl ⟨rfl, by repeat (first | exact Below.refl _ _ | apply below_alloc | apply pw_below_drewN | apply below_drew1 | (refine Below.setCell ?_ (by simp) _))⟩
def szS2V (n : Int) (a0 a1 : Nat) : Int := if wrap64 (n - a0) < 0 then -1 else if wrap64 (wrap64 (n - a0) - a1) < 0 then -1 else wrap64 (wrap64 (n - a0) - a1)
set_option maxHeartbeats 4000000 in
theorem szS2 (a0 a1 : ByteArray) (n : Int) (w : World) : Calls Tryd.prog 116 #[.agg #[.string a0, .string a1], .int .i64 n] w fun e w' => e = .returned (.int .i64 (szS2V n a0.size a1.size)) ∧ Below w.heap.size w w' := by
  by_cases h0 : wrap64 (n - a0.size) < 0
  · have R := Lib.hid (show (-1 : Int) = (szS2V n a0.size a1.size) by unfold szS2V; rw [if_pos h0])
    go_enter Tryd.func116, Tryd.ntmps116
    go_wp2
    refine wp_loop_rounds 3 ?_
    rw [rounds_succ]
    go_wp2
    go_ret
    exact ⟨ret_i64 R.out, by repeat (first | exact Below.refl _ _ | apply below_alloc | apply pw_below_drewN | apply below_drew1)⟩
  · by_cases h1 : wrap64 (wrap64 (n - a0.size) - a1.size) < 0
    · have R := Lib.hid (show (-1 : Int) = (szS2V n a0.size a1.size) by unfold szS2V; rw [if_neg h0, if_pos h1])
      go_enter Tryd.func116, Tryd.ntmps116
      go_wp2
      refine wp_loop_rounds 3 ?_
      rw [rounds_succ]
      go_wp2
      rw [rounds_succ]
      go_wp2
      go_ret
      exact ⟨ret_i64 R.out, by repeat (first | exact Below.refl _ _ | apply below_alloc | apply pw_below_drewN | apply below_drew1)⟩
    · have R := Lib.hid (show wrap64 (wrap64 (n - a0.size) - a1.size) = (szS2V n a0.size a1.size) by unfold szS2V; rw [if_neg h0, if_neg h1])
      go_enter Tryd.func116, Tryd.ntmps116
      go_wp2
      refine wp_loop_rounds 3 ?_
      rw [rounds_succ]
      go_wp2
      rw [rounds_succ]
      go_wp2
      rw [rounds_succ]
      go_wp2
      go_ret
      exact ⟨ret_i64 R.out, by repeat (first | exact Below.refl _ _ | apply below_alloc | apply pw_below_drewN | apply below_drew1)⟩
/-! As the print tells a function. -/
def laws_eqInt64A2.f (a0_0 a0_1 a1_0 a1_1 : Int) : Option Bool := some (decide ((a0_0, a0_1) = (a1_0, a1_1)))
theorem laws_eqInt64A2.calls (a0_0 a0_1 a1_0 a1_1 : Int) (r : Bool) (w : World) (h : laws_eqInt64A2.f a0_0 a0_1 a1_0 a1_1 = some r) :
    Calls Tryd.prog 120 #[.agg #[.int .i64 a0_0, .int .i64 a0_1], .agg #[.int .i64 a1_0, .int .i64 a1_1]] w fun e w' => e = .returned (.bool r) ∧ Below w.heap.size w w' := by
  obtain rfl := Option.some.inj h; exact eqI2 _ _ _ _ w
def laws_eqStringA2.f (a0_0 a0_1 a1_0 a1_1 : ByteArray) : Option Bool := some (decide ((a0_0, a0_1) = (a1_0, a1_1)))
theorem laws_eqStringA2.calls (a0_0 a0_1 a1_0 a1_1 : ByteArray) (r : Bool) (w : World) (h : laws_eqStringA2.f a0_0 a0_1 a1_0 a1_1 = some r) :
    Calls Tryd.prog 121 #[.agg #[.string a0_0, .string a0_1], .agg #[.string a1_0, .string a1_1]] w fun e w' => e = .returned (.bool r) ∧ Below w.heap.size w w' := by
  obtain rfl := Option.some.inj h; exact eqS2 _ _ _ _ w
def laws_toInt64A2.f (a0_0 a0_1 : Int) : Option (Int × Int) := some (a0_0, a0_1)
theorem laws_toInt64A2.calls (a0_0 a0_1 r1 r2 : Int) (w : World) (h : laws_toInt64A2.f a0_0 a0_1 = some (r1, r2)) :
    Calls Tryd.prog 117 #[.agg #[.int .i64 a0_0, .int .i64 a0_1]] w fun e w' => e = .returned (.agg #[.int .i64 r1, .int .i64 r2]) ∧ Below w.heap.size w w' := by
  cases h; exact toI2 _ _ w
def laws_toStringA2.f (a0_0 a0_1 : ByteArray) : Option (ByteArray × ByteArray) := some (a0_0, a0_1)
theorem laws_toStringA2.calls (a0_0 a0_1 r1 r2 : ByteArray) (w : World) (h : laws_toStringA2.f a0_0 a0_1 = some (r1, r2)) :
    Calls Tryd.prog 118 #[.agg #[.string a0_0, .string a0_1]] w fun e w' => e = .returned (.agg #[.string r1, .string r2]) ∧ Below w.heap.size w w' := by
  cases h; exact toS2 _ _ w
def laws_szStringA2.f (a0_0 a0_1 : ByteArray) (a1 : Int) : Option Int := some (szS2V a1 a0_0.size a0_1.size)
theorem laws_szStringA2.calls (a0_0 a0_1 : ByteArray) (a1 r : Int) (w : World) (h : laws_szStringA2.f a0_0 a0_1 a1 = some r) :
    Calls Tryd.prog 116 #[.agg #[.string a0_0, .string a0_1], .int .i64 a1] w fun e w' => e = .returned (.int .i64 r) ∧ Below w.heap.size w w' := by
  obtain rfl := Option.some.inj h; exact szS2 _ _ _ w
end Go.Proofs.YtjclfbcofclopaaDoor.Sc
