/- Words: the program's and the reference's tests are one. -/
import Derived.Test.YtjclfbcofclopaaDoorPScAx
import Derived.Test.YtjclfbcofclopaaDoorWord
import Derived.Test.YtjclfbcofclopaaDoorPure
namespace Go.Proofs.YtjclfbcofclopaaDoor.PureWd
open Go.RowKit Go.Proofs.YtjclfbcofclopaaDoorW.PrintWords Go.Proofs.YtjclfbcofclopaaDoorW.PrintLast Go.Proofs.YtjclfbcofclopaaDoor.PScA Go.Proofs.YtjclfbcofclopaaDoor.Pure Go.Proofs.YtjclfbcofclopaaDoor.Wd
theorem dropWhile_nil {α : Type} (p : α → Bool) : ∀ l : List α, l.dropWhile p = [] ↔ l.all p = true
  | [] => by simp
  | x :: xs => by
    rw [List.dropWhile_cons, List.all_cons]
    cases h : p x with
    | true => simp [dropWhile_nil p xs]
    | false => simp
theorem dropWhile_head {α : Type} (p : α → Bool) : ∀ (l : List α) (x : α) (xs : List α), l.dropWhile p = x :: xs → p x = false
  | [], _, _, h => by simp at h
  | y :: ys, x, xs, h => by
    rw [List.dropWhile_cons] at h
    cases hy : p y with
    | true => rw [hy] at h; exact dropWhile_head p ys x xs (by simpa using h)
    | false => rw [hy] at h; simp at h; rw [← h.1]; exact hy
/-- Are these the letters a, b alone? -/
def letters (l : List UInt8) : Bool := l.all fun b => b == 97 || b == 98
theorem trim_letters (l : List UInt8) : (Lib.trimS l [97, 98]).isEmpty = letters l := by
  have hp : letters l = l.all (fun b => ([97, 98] : List UInt8).contains b) := by
    unfold letters
    congr 1
    funext b
    simp [List.contains, List.elem]
    cases h1 : (b == 97) <;> cases h2 : (b == 98) <;> rfl
  rw [hp]
  unfold Lib.trimS Lib.trimLeftS Lib.trimRightS
  generalize (fun b : UInt8 => ([97, 98] : List UInt8).contains b) = p
  cases h : l.reverse.dropWhile p with
  | nil =>
    have := (dropWhile_nil p l.reverse).1 h
    rw [List.all_reverse] at this
    rw [this]; rfl
  | cons x xs =>
    have hx := dropWhile_head p _ _ _ h
    have h1 : l.all p = false := by
      rw [← List.all_reverse]
      cases h2 : l.reverse.all p with
      | false => rfl
      | true => rw [(dropWhile_nil p l.reverse).2 h2] at h; cases h
    rw [h1]
    cases h3 : (x :: xs).reverse.dropWhile p with
    | cons _ _ => rfl
    | nil =>
      have := (dropWhile_nil p _).1 h3
      rw [List.all_reverse, List.all_cons, hx] at this
      cases this
theorem word_is (u : ByteArray) : isWord u = (decide (u.size ≤ 40) && letters u.data.toList) := by
  unfold isWord; rw [trim_letters]
theorem bt_nat (u : ByteArray) (i : Nat) (h : i < u.data.toList.length) : bt u (i : Int) = (u.data.toList[i].toNat : Int) := by
  have h' : ((i : Int)).toNat < u.size := by
    rw [Int.toNat_natCast]
    have : u.data.toList.length = u.size := Array.length_toList
    omega
  unfold bt
  rw [dif_pos h']
  rfl
theorem word_ev (u : ByteArray) (hu : u.size ≤ 1048576) : Ev (fun k => spec_l01Word.f k u) (isWord u) := by
  rw [word_is]
  unfold spec_l01Word.f letters
  have hl : u.data.toList.length = u.size := Array.length_toList
  have key : ∀ d i, d + i = u.size → Ev (fun k => spec_l01Word.l0 k u (i : Int)) (decide (u.size ≤ 40) && (u.data.toList.drop i).all fun b => b == 97 || b == 98) := by
    intro d
    induction d with
    | zero =>
      intro i hi
      refine ev_const (fun k => ?_)
      simp only [spec_l01Word.l0]
      rw [if_neg (by omega), List.drop_eq_nil_of_le (by omega)]
      simp; omega
    | succ d ih =>
      intro i hi
      have hlt : i < u.data.toList.length := by omega
      have hb := bt_nat u i hlt
      rw [List.drop_eq_getElem_cons hlt, List.all_cons]
      generalize u.data.toList[i] = x at hb
      by_cases h1 : x = 97
      · subst h1
        refine ev_step (fun k => by simp only [spec_l01Word.l0]; rw [if_pos (by omega), if_pos (by omega), hb, if_pos (by decide), wrap_up (by omega)]) ?_
        have := ih (i + 1) (by omega)
        simpa using this
      · by_cases h2 : x = 98
        · subst h2
          refine ev_step (fun k => by simp only [spec_l01Word.l0]; rw [if_pos (by omega), if_pos (by omega), hb, if_neg (by decide), if_pos (by decide), wrap_up (by omega)]) ?_
          have := ih (i + 1) (by omega)
          simpa using this
        · have n1 : ¬ ((x.toNat : Int) = 97) := fun e => h1 (by apply UInt8.toNat_inj.1; simpa using (by omega : x.toNat = 97))
          have n2 : ¬ ((x.toNat : Int) = 98) := fun e => h2 (by apply UInt8.toNat_inj.1; simpa using (by omega : x.toNat = 98))
          have e : (x == 97 || x == 98) = false := by simp [h1, h2]
          rw [e, Bool.false_and, Bool.and_false]
          exact ev_const (fun k => by simp only [spec_l01Word.l0]; rw [if_pos (by omega), if_pos (by omega), hb, if_neg n1, if_neg n2])
  have := key u.size 0 (by omega)
  rw [List.drop_zero] at this
  exact this
end Go.Proofs.YtjclfbcofclopaaDoor.PureWd
