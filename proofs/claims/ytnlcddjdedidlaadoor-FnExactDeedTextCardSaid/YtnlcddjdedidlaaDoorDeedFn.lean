/- The texts of deeds as plain functions: what the walks of <Name>Deed give, in the printer's form. -/
import Derived.Test.YtnlcddjdedidlaaDoorDeed
namespace Go.Proofs.YtnlcddjdedidlaaDoor.Deed
open Go.Proofs.YtnlcddjdedidlaaDoor.PDtA Go.RowKit Go.Proofs.YtnlcddjdedidlaaDoorW.PrintWords Go.Proofs.YtnlcddjdedidlaaDoorW.PrintLast Go.Proofs.YtnlcddjdedidlaaDoorW.PrintMore Go.Proofs.YtnlcddjdedidlaaDoor.Txt
theorem words_at {u : Int} (h1 : 1 ≤ u) (h6 : u ≤ 6) : ∃ k : Nat, k < 7 ∧ u = (k : Int) ∧ (word u).size ≤ 1000 ∧ (#[.string ⟨#[]⟩, .string ⟨#[97, 115, 107]⟩, .string ⟨#[100, 101, 108, 105, 118, 101, 114]⟩, .string ⟨#[99, 111, 112, 121]⟩, .string ⟨#[100, 114, 111, 112]⟩, .string ⟨#[115, 97, 118, 101]⟩, .string ⟨#[99, 114, 97, 115, 104]⟩] : Array Value)[k]? = some (.string (word u)) := by
  have : u = 1 ∨ u = 2 ∨ u = 3 ∨ u = 4 ∨ u = 5 ∨ u = 6 := by omega
  rcases this with rfl | rfl | rfl | rfl | rfl | rfl
  · exact ⟨1, by decide, rfl, by decide, rfl⟩
  · exact ⟨2, by decide, rfl, by decide, rfl⟩
  · exact ⟨3, by decide, rfl, by decide, rfl⟩
  · exact ⟨4, by decide, rfl, by decide, rfl⟩
  · exact ⟨5, by decide, rfl, by decide, rfl⟩
  · exact ⟨6, by decide, rfl, by decide, rfl⟩
def impl_deedText.f (u a : Int) : Option ByteArray :=
  if 1 ≤ u ∧ u ≤ 6 then (impl_text.f a).bind fun d => if d.size ≤ 1000 then some (word u ++ ⟨#[32]⟩ ++ d) else none else none
theorem impl_deedText.calls (u a : Int) (r : ByteArray) (w : World) (hG : Glob w) (h : impl_deedText.f u a = some r) :
    Calls Tryd.prog 11 #[.agg #[.int .i64 u, .int .i64 a]] w fun e w' => e = .returned (.string r) ∧ Below w.heap.size w w' := by
  unfold impl_deedText.f at h
  split at h
  · rename_i hb
    obtain ⟨d, hd, h⟩ := Option.bind_eq_some_iff.mp h
    split at h
    · rename_i hs
      obtain rfl := Option.some.inj h
      obtain ⟨k, hk7, hu, hw, hk⟩ := words_at hb.1 hb.2
      exact it k hk7 u a hu (word u) d w hs hw hk (fun W hW => impl_text.calls a d W (glob_below hG hW) hd)
    · cases h
  · cases h
def spec_DeedText.f (u a : Int) : Option ByteArray :=
  if 1 ≤ u ∧ u ≤ 6 ∧ 0 ≤ a ∧ a ≤ 999 then (spec_Decimal.f 4 a).bind fun d => if d.size ≤ 1000 then some (word u ++ ⟨#[32]⟩ ++ d) else none
  else (spec_l08Deed.f u a).bind fun t => if t = false then some ⟨#[]⟩ else none
theorem deed_true {u a : Int} (h : 1 ≤ u ∧ u ≤ 6 ∧ 0 ≤ a ∧ a ≤ 999) : spec_l08Deed.f u a = some true := by
  simp [spec_l08Deed.f, spec_l00In.f, h.1, h.2.1, h.2.2.1, h.2.2.2]
theorem spec_DeedText.calls (u a : Int) (r : ByteArray) (w : World) (h : spec_DeedText.f u a = some r) :
    Calls Tryd.prog 4 #[.agg #[.int .i64 u, .int .i64 a]] w fun e w' => e = .returned (.string r) ∧ Below w.heap.size w w' := by
  unfold spec_DeedText.f at h
  split at h
  · rename_i hb
    obtain ⟨d, hd, h⟩ := Option.bind_eq_some_iff.mp h
    split at h
    · rename_i hs
      obtain rfl := Option.some.inj h
      obtain ⟨k, hk7, hu, hw, hk⟩ := words_at hb.1 hb.2.1
      exact st k hk7 u a hu (word u) d w hs hw hk (deed_true hb) (fun W hW => spec_Decimal.calls 4 a d W hd)
    · cases h
  · obtain ⟨t, ht, h⟩ := Option.bind_eq_some_iff.mp h
    split at h
    · rename_i hf
      subst hf
      obtain rfl := Option.some.inj h
      go_enter Tryd.func4, Tryd.ntmps4
      go_wp2_with (go_at_call 7; refine (spec_l08Deed.calls _ _ false _ ht).mono ?_; rintro e w1 ⟨rfl, hb1⟩; have hB1 : Below w.heap.size w w1 := below_step (by repeat (first | exact Below.refl _ _ | assumption | apply below_alloc | apply pw_below_drewN | apply below_drew1)) hb1)
      go_ret
      exact ⟨rfl, hB1⟩
    · cases h
theorem dec_len : ∀ (k u : Nat), u < 10 ^ (k + 1) → (Lib.decDigits u).length ≤ k + 1
  | k, u, h => by
    rw [Lib.decDigits]
    split
    · simp
    · rename_i h10
      cases k with
      | zero => omega
      | succ k =>
        have := dec_len k (u / 10) (by rw [Nat.pow_succ] at h; omega)
        simp; omega
theorem one_digit (x : Int) (n : Nat) (h : x = (n : Int)) (hn : n < 10) : strOfNums [wrap64 (48 + x) % 256] = ⟨[UInt8.ofNat (48 + n)].toArray⟩ := by
  subst h
  have : wrap64 (48 + (n : Int)) % 256 = ((48 + n : Nat) : Int) := by unfold wrap64; omega
  rw [this]
  show (⟨([((48 + n : Nat) : Int)].map fun n => UInt8.ofNat n.toNat).toArray⟩ : ByteArray) = _
  rw [List.map_cons, List.map_nil, Int.toNat_natCast]
theorem dec_is : ∀ (k u : Nat), u < 10 ^ (k + 1) → k ≤ 17 → spec_Decimal.f (k + 1) (u : Int) = some ⟨(Lib.decDigits u).toArray⟩
  | k, u, h, hk => by
    rw [spec_Decimal.f, Lib.decDigits]
    by_cases h10 : u < 10
    · rw [if_neg (by omega), dif_pos h10, one_digit _ u rfl h10]
    · rw [if_pos (by omega), dif_neg h10]
      have hu : u < 10 ^ 19 := Nat.lt_of_lt_of_le h (Nat.pow_le_pow_right (by decide) (by omega))
      have e1 : wrap64 (Int.tdiv (u : Int) 10) = ((u / 10 : Nat) : Int) := by
        have : Int.tdiv (u : Int) 10 = ((u / 10 : Nat) : Int) := by rfl
        rw [this]; unfold wrap64; omega
      have e2 : Int.tmod (u : Int) 10 = ((u % 10 : Nat) : Int) := rfl
      cases k with
      | zero => omega
      | succ k =>
        have h' : u / 10 < 10 ^ (k + 1) := by rw [Nat.pow_succ] at h; omega
        rw [e1, dec_is k (u / 10) h' (by omega), e2]
        simp only [Option.bind_some, one_digit _ (u % 10) rfl (by omega)]
        have hl := dec_len k (u / 10) h'
        rw [if_pos (by simp [ByteArray.size]; omega)]
        congr 1
theorem small_text (a : Int) (h0 : 0 ≤ a) (h9 : a ≤ 999) : ∃ d : ByteArray, impl_text.f a = some d ∧ spec_Decimal.f 4 a = some d ∧ d.size ≤ 1000 := by
  obtain ⟨u, rfl⟩ := Int.eq_ofNat_of_zero_le h0
  refine ⟨⟨(Lib.decDigits u).toArray⟩, ?_, dec_is 3 u (by omega) (by decide), ?_⟩
  · unfold impl_text.f
    rw [if_pos (by omega), Lib.itoa, if_neg (by omega)]
    rfl
  · have := dec_len 3 u (by omega)
    simp [ByteArray.size]; omega
end Go.Proofs.YtnlcddjdedidlaaDoor.Deed
