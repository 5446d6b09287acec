/- Plain laws on loops that are told with a number of rounds: what they come to. No program. No condition. -/
import Derived.Test.YtjclfbcofclopaaDoorWWords
import Derived.Test.YtjclfbcofclopaaDoorWLast
import Derived.Lib.SlicesS
namespace Go.Proofs.YtjclfbcofclopaaDoor.Pure
set_option linter.unusedVariables false
set_option linter.unusedSimpArgs false
open Go.RowKit Go.Proofs.YtjclfbcofclopaaDoorW.PrintWords
/-- A step of a loop whose body is told at 'k + 1'. -/
theorem ev_step {α : Type} {g f : Nat → Option α} {r : α} (h : ∀ k, g (k + 1) = f k) (k : Ev f r) : Ev g r := Ev.step h k
theorem ev_const {α : Type} {g : Nat → Option α} {r : α} (h : ∀ k, g (k + 1) = some r) : Ev g r := Ev.step h (Ev.now r)
/-- A step whose body calls. -/
theorem ev_call {α β : Type} {g : Nat → Option α} {c : Nat → Option β} {f : Nat → β → Option α} {b : β} {r : α} (hc : Ev c b) (h : Ev (fun k => f k b) r) (hg : ∀ k, g k = (c k).bind (f k)) : Ev g r :=
  Ev.congr hg (Ev.bind hc h)
theorem ev_some {α β : Type} {c : Option β} {g : Nat → Option α} {f : Nat → β → Option α} {b : β} {r : α} (hc : c = some b) (h : Ev (fun k => f k b) r) (hg : ∀ k, g k = c.bind (f k)) : Ev g r :=
  Ev.congr (fun k => by rw [hg k, hc]; rfl) h
theorem ev_ift {α : Type} {c : Prop} [Decidable c] {x y : Nat → Option α} {r : α} (hc : c) (h : Ev x r) : Ev (fun k => if c then x k else y k) r := Ev.congr (fun _ => if_pos hc) h
theorem ev_iff {α : Type} {c : Prop} [Decidable c] {x y : Nat → Option α} {r : α} (hc : ¬ c) (h : Ev y r) : Ev (fun k => if c then x k else y k) r := Ev.congr (fun _ => if_neg hc) h
/-- A loop over an index from 0 on. -/
theorem ev_up {σ ρ : Type} (l : Nat → Int → σ → Option ρ) (n : Nat) (s : Nat → σ) (r : ρ) (hend : Ev (fun k => l k (n : Int) (s n)) r)
    (hstep : ∀ i, i < n → Ev (fun k => l k ((i : Int) + 1) (s (i + 1))) r → Ev (fun k => l k (i : Int) (s i)) r) : Ev (fun k => l k 0 (s 0)) r := by
  have key : ∀ d i, d + i = n → Ev (fun k => l k (i : Int) (s i)) r := by
    intro d
    induction d with
    | zero => intro i hi; obtain rfl : i = n := by omega
              exact hend
    | succ d ih =>
      intro i hi
      exact hstep i (by omega) (by have := ih (i + 1) (by omega); simpa using this)
  exact key n 0 (by omega)
/-- A loop that copies an element a round. -/
theorem ev_copy {α : Type} (l : Nat → List α → Int → Option (List α)) (xs : List α) (z : α)
    (hend : ∀ ys, ys.length = xs.length → Ev (fun k => l k ys (xs.length : Int)) ys)
    (hstep : ∀ (i : Nat) (hi : i < xs.length) (ys : List α) (r : List α), ys.length = xs.length → Ev (fun k => l k (ys.set i xs[i]) ((i : Int) + 1)) r → Ev (fun k => l k ys (i : Int)) r) :
    Ev (fun k => l k (List.replicate xs.length z) 0) xs := by
  have hs : ∀ i, i < xs.length → (xs.take i ++ List.replicate (xs.length - i) z).set i (xs.getD i z) = xs.take (i + 1) ++ List.replicate (xs.length - (i + 1)) z := by
    intro i hi
    have e : xs.length - i = (xs.length - (i + 1)) + 1 := by omega
    have ht : (xs.take i).length = i := by simp; omega
    rw [e, List.replicate_succ, List.set_append_right _ _ (by omega), ht, Nat.sub_self, List.set_cons_zero]
    have eg : xs.getD i z = xs[i] := by simp [List.getD, List.getElem?_eq_getElem hi]
    rw [eg, List.take_succ_eq_append_getElem hi, List.append_assoc]
    rfl
  have := ev_up (fun k i ys => l k ys i) xs.length (fun i => xs.take i ++ List.replicate (xs.length - i) z) xs (by
      have := hend (xs.take xs.length ++ List.replicate (xs.length - xs.length) z) (by simp)
      simpa using this)
    (fun i hi h => hstep i hi _ _ (by simp; omega) (by
      have e := hs i hi
      have eg : xs.getD i z = xs[i] := by simp [List.getD, List.getElem?_eq_getElem hi]
      rw [eg] at e
      rw [e]
      exact h))
  simpa using this
/-- A loop that looks whether all indices pass. -/
theorem ev_all (l : Nat → Int → Option Bool) (n : Nat) (p : Nat → Bool) (hend : Ev (fun k => l k (n : Int)) true)
    (hyes : ∀ i, i < n → p i = true → ∀ r, Ev (fun k => l k ((i : Int) + 1)) r → Ev (fun k => l k (i : Int)) r)
    (hno : ∀ i, i < n → p i = false → Ev (fun k => l k (i : Int)) false) : Ev (fun k => l k 0) ((List.range n).all p) := by
  have key : ∀ d i, d + i = n → Ev (fun k => l k (i : Int)) ((List.range' i d).all p) := by
    intro d
    induction d with
    | zero => intro i hi; obtain rfl : i = n := by omega
              exact hend
    | succ d ih =>
      intro i hi
      rw [List.range'_succ, List.all_cons]
      cases hp : p i with
      | false => exact hno i (by omega) hp
      | true => rw [Bool.true_and]; exact hyes i (by omega) hp _ (by have := ih (i + 1) (by omega); simpa using this)
  have := key n 0 (by omega)
  rw [← List.range_eq_range'] at this
  exact this
theorem wrap_up {i : Nat} (h : i < 9223372036854775807) : wrap64 ((i : Int) + 1) = (i : Int) + 1 := by unfold wrap64; omega
theorem wrap_id {i : Int} (h0 : -9223372036854775808 ≤ i) (h : i ≤ 9223372036854775807) : wrap64 i = i := by unfold wrap64; omega
theorem rd_nat (xs : List Int) (i : Nat) (h : i < xs.length) : rd xs (i : Int) = xs[i] := by
  unfold rd; simp [List.getD, List.getElem?_eq_getElem h]
theorem rdOf_nat {α : Type} (d : α) (xs : List α) (i : Nat) (h : i < xs.length) : rdOf d xs (i : Int) = xs[i] := by
  unfold rdOf; simp [List.getD, List.getElem?_eq_getElem h]
theorem getD_nat {α : Type} (xs : List α) (d : α) (i : Nat) (h : i < xs.length) : xs.getD ((i : Int).toNat) d = xs[i] := by
  simp [List.getD, List.getElem?_eq_getElem h]
theorem all_zip {α : Type} (xs ys : List α) (p : α → α → Bool) (d : α) (h : xs.length = ys.length) : ((List.range xs.length).all fun i => p (xs.getD i d) (ys.getD i d)) = (xs.zip ys).all fun q => p q.1 q.2 := by
  rw [Bool.eq_iff_iff]
  simp only [List.all_eq_true, List.mem_range]
  constructor
  · intro H q hq
    obtain ⟨i, hi, e⟩ := List.mem_iff_getElem.1 hq
    have h1 : i < xs.length := by simp at hi; omega
    have h2 : i < ys.length := by omega
    have := H i h1
    rw [List.getElem_zip] at e
    subst e
    simpa [List.getD, List.getElem?_eq_getElem h1, List.getElem?_eq_getElem h2] using this
  · intro H i hi
    have h2 : i < ys.length := by omega
    have := H (xs[i], ys[i]) (by rw [← List.getElem_zip (h := by simp; omega)]; exact List.getElem_mem _)
    simpa [List.getD, List.getElem?_eq_getElem hi, List.getElem?_eq_getElem h2] using this
theorem eq_all {α : Type} (xs ys : List α) (p : α → α → Bool) (d : α) (hp : ∀ a b, p a b = true ↔ a = b) (h : xs.length = ys.length) : ((List.range xs.length).all fun i => p (xs.getD i d) (ys.getD i d)) = true ↔ xs = ys := by
  simp only [List.all_eq_true, List.mem_range, hp]
  constructor
  · intro H
    apply List.ext_getElem h
    intro i h1 h2
    have := H i h1
    simpa [List.getD, List.getElem?_eq_getElem h1, List.getElem?_eq_getElem h2] using this
  · rintro rfl i _; rfl
end Go.Proofs.YtjclfbcofclopaaDoor.Pure
