/- Short words for the texts of this claim. -/
namespace Go.Proofs.YtnjdkhnepmmfgaaDoor
def zb (n k : Nat) : Array Bool := ⟨(List.range n).map fun i => k.testBit i⟩
theorem Za {α : Type _} {xs : List α} {i : Nat} {a : α} : xs.toArray.setIfInBounds i a = (xs.set i a).toArray := List.setIfInBounds_toArray ..
theorem Zb {α : Type _} {x a : α} {xs : List α} : (x :: xs).set 0 a = a :: xs := List.set_cons_zero
theorem Zc {α : Type _} {x a : α} {xs : List α} {n : Nat} : (x :: xs).set (n + 1) a = x :: xs.set n a := List.set_cons_succ
end Go.Proofs.YtnjdkhnepmmfgaaDoor
