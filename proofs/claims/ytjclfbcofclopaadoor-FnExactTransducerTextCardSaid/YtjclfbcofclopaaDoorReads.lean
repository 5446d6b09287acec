/- How an argument's data are read as a list, a number, a text: from the form's reading (DataW.trod) to the kinds (Kd) of the printed contracts. No condition. -/
import Derived.Test.YtjclfbcofclopaaDoorWWords
import Derived.ChangeArms
import Derived.OpenShut
import Derived.Deep.Slices
import Derived.DataReads
import Derived.WideShapes
import Derived.Lib.SmallJoins
namespace Go.Proofs.YtjclfbcofclopaaDoor.Reads
open Go.RowKit Go.Deep Go.Proofs.YtjclfbcofclopaaDoorW.PrintWords
/-- Whatever is read at type t is of kind d, and B holds of it. -/
def Opens (P : Program) (t : TypeId) {α : Type} (d : Kd α) (B : α → Prop) : Prop :=
  P.cellsOf t = d.sz ∧ ∀ (H : Type) (enc : TypeId × Value → H) (w : World) (spare : Nat → Bool) (held : Bool) (fuel : Nat) (cs : List Value) (x : DataW H × List MemPlace),
    DataW.trod enc P w 0 spare held fuel t cs = some x → ∃ y, d.K w y cs ∧ B y
variable {P : Program} {t e : TypeId}
theorem opens_int {k : IntKind} (ht : P.underlying t = some (.int k)) (hc : P.cellsOf t = 1) : Opens P t (Kd.int k) (fun n => (Lit.int k n).wf = true) :=
  ⟨hc, fun H enc w spare held fuel cs x h => by
    obtain ⟨n, rfl, _, hw⟩ := DataW.trod_int ht h
    exact ⟨n, rfl, hw⟩⟩
theorem opens_bool (ht : P.underlying t = some .bool) (hc : P.cellsOf t = 1) : Opens P t Kd.bool (fun _ => True) :=
  ⟨hc, fun H enc w spare held fuel cs x h => by
    obtain ⟨b, rfl, _⟩ := DataW.trod_bool ht h
    exact ⟨b, rfl, trivial⟩⟩
theorem opens_string (ht : P.underlying t = some .string) (hc : P.cellsOf t = 1) : Opens P t Kd.string (fun s => s.size ≤ 9223372036854775807) :=
  ⟨hc, fun H enc w spare held fuel cs x h => by
    obtain ⟨s, rfl, _, hs⟩ := DataW.trod_string ht h
    exact ⟨s, rfl, by unfold maxLen at hs; exact hs⟩⟩
theorem opens_slice {α : Type} {d : Kd α} {B : α → Prop} (ht : P.underlying t = some (.slice e)) (hc : P.cellsOf t = 1) (he : Opens P e d B) : Opens P t (Kd.slice e d) (fun l => l.length ≤ 9223372036854775807 ∧ ∀ x ∈ l, B x) :=
  ⟨hc, fun H enc w spare held fuel cs x h => by
    rcases open_slice ht h with ⟨rfl, _⟩ | ⟨a, len, cap, m, n, D, Pl, rfl, _, hl, hm, hmm, _, hx⟩
    · exact ⟨[], ⟨none, 0, rfl, Nat.le_refl _, rfl, by simp, fun h => by simp at h⟩, by simp, by simp⟩
    · have hlm : len ≤ m := by rw [hmm]; split <;> omega
      obtain ⟨hs, hr⟩ := he
      have hex : ∀ i, i < len → ∃ y, B y ∧ ∃ c, c.length = d.sz ∧ d.K w y c ∧ ∀ k u, c[k]? = some u → w.cell? (a.add (i * d.sz + k)) = some u := by
        intro i hi
        obtain ⟨c, h1, h2⟩ := hx i (by omega)
        obtain ⟨_, hcl, hcell⟩ := World.cells?_some h1
        obtain ⟨y, hy, hB⟩ := hr H enc w spare held n c _ h2
        refine ⟨y, hB, c, by rw [hcl, hs], hy, fun k u hu => ?_⟩
        have hk : k < P.cellsOf e := by rw [← hcl]; exact (List.getElem?_eq_some_iff.1 hu).1
        have := hcell k hk
        rw [hu] at this
        rw [← this, hs]
        have ea : ∀ (b : Addr) (x y : Nat), (b.add x).add y = b.add (x + y) := fun b x y => by
          unfold Addr.add
          by_cases hx0 : x = 0 <;> by_cases hy0 : y = 0 <;> simp [hx0, hy0, Nat.add_assoc]
        rw [ea]
      clear hx
      have key : ∀ n, n ≤ len → ∃ l : List α, l.length = n ∧ ∀ i, (hi : i < l.length) → B l[i] ∧ ∃ c, c.length = d.sz ∧ d.K w l[i] c ∧ ∀ k u, c[k]? = some u → w.cell? (a.add (i * d.sz + k)) = some u := by
        intro n
        induction n with
        | zero => intro _; exact ⟨[], rfl, fun i hi => by simp at hi⟩
        | succ n ih =>
          intro hn
          obtain ⟨l, hl1, hl2⟩ := ih (by omega)
          obtain ⟨y, hB, hy⟩ := hex n (by omega)
          refine ⟨l ++ [y], by simp [hl1], fun i hi => ?_⟩
          by_cases h' : i < l.length
          · rw [List.getElem_append_left h']
            exact hl2 i h'
          · have : i = l.length := by simp at hi; omega
            subst this
            simp only [List.getElem_append_right (Nat.le_refl _), Nat.sub_self, List.getElem_cons_zero]
            rw [hl1]
            exact ⟨hB, hy⟩
      obtain ⟨l, hl1, hl2⟩ := key len (Nat.le_refl _)
      unfold maxLen at hm
      refine ⟨l, ⟨some a, cap, by rw [hl1], by omega, rfl, by omega, fun _ => ⟨a, rfl, fun j p hp => ?_⟩⟩, by omega, fun x hx => ?_⟩
      · obtain ⟨hj, rfl⟩ := List.getElem?_eq_some_iff.1 hp
        exact (hl2 j hj).2
      · obtain ⟨i, hi, rfl⟩ := List.mem_iff_getElem.1 hx
        exact (hl2 i hi).1⟩
theorem opens_iso {α β : Type} {d : Kd α} {B : α → Prop} (f : β → α) (g : α → β) (hg : ∀ y, f (g y) = y) (h : Opens P t d B) : Opens P t (Kd.iso d f) (fun y => B (f y)) :=
  ⟨h.1, fun H enc w spare held fuel cs x hx => by
    obtain ⟨y, hy, hB⟩ := h.2 H enc w spare held fuel cs x hx
    exact ⟨g y, by show d.K w (f (g y)) cs; rw [hg]; exact hy, by show B (f (g y)); rw [hg]; exact hB⟩⟩
/-! Fields in line: 'At o cs' is what stands from o on. -/
set_option linter.unusedVariables false in
def Fields (P : Program) : List Field → Nat → (α : Type) → Kd α → (α → Prop) → Prop
  | [], _, _, _, _ => False
  | [f], o, α, d, B => f.offset = o ∧ Opens P f.type d B
  | f :: g :: fs, o, α, d, B => ∃ (β γ : Type) (b : Kd β) (c : Kd γ) (B1 : β → Prop) (B2 : γ → Prop) (h : α = (β × γ)), f.offset = o ∧ Opens P f.type b B1 ∧ Fields P (g :: fs) (o + b.sz) γ c B2 ∧
      h ▸ d = Kd.pair b c ∧ ∀ x, B x ↔ B1 (cast h x).1 ∧ B2 (cast h x).2
theorem fields_one {α : Type} {d : Kd α} {B : α → Prop} {f : Field} {o : Nat} (ho : f.offset = o) (h : Opens P f.type d B) : Fields P [f] o α d B := ⟨ho, h⟩
theorem fields_cons {β γ : Type} {b : Kd β} {c : Kd γ} {B1 : β → Prop} {B2 : γ → Prop} {f g : Field} {fs : List Field} {o : Nat} (ho : f.offset = o) (h : Opens P f.type b B1) (hr : Fields P (g :: fs) (o + b.sz) γ c B2) :
    Fields P (f :: g :: fs) o (β × γ) (Kd.pair b c) (fun x => B1 x.1 ∧ B2 x.2) := ⟨β, γ, b, c, B1, B2, rfl, ho, h, hr, rfl, fun _ => Iff.rfl⟩
theorem fields_read : ∀ (fs : List Field) (o : Nat) (α : Type) (d : Kd α) (B : α → Prop), Fields P fs o α d B → ∀ (H : Type) (enc : TypeId × Value → H) (w : World) (spare : Nat → Bool) (held : Bool) (n : Nat) (cs : List Value) (xs : List (DataW H × List MemPlace)),
    cs.length = o + d.sz → xs.length = fs.length → (∀ (i : Nat) (f : Field), fs[i]? = some f → DataW.trod enc P w 0 spare held n f.type ((cs.drop f.offset).take (P.cellsOf f.type)) = xs[i]?) → ∃ y, d.K w y (cs.drop o) ∧ B y
  | [], _, _, _, _, h => h.elim
  | [f], o, α, d, B, h => by
    obtain ⟨rfl, h⟩ := h
    intro H enc w spare held n cs xs hl hx hf
    have h0 := hf 0 f rfl
    obtain ⟨x, hx0⟩ : ∃ x, xs[0]? = some x := ⟨_, List.getElem?_eq_getElem (by rw [hx]; simp)⟩
    rw [hx0] at h0
    obtain ⟨y, hy, hB⟩ := h.2 H enc w spare held n _ _ h0
    refine ⟨y, ?_, hB⟩
    rw [List.take_of_length_le (by rw [h.1, List.length_drop, hl]; omega)] at hy
    exact hy
  | f :: g :: fs, o, α, d, B, h => by
    obtain ⟨β, γ, b, c, B1, B2, rfl, rfl, h1, h2, rfl, hB⟩ := h
    intro H enc w spare held n cs xs hl hx hf
    have h0 := hf 0 f rfl
    obtain ⟨x, hx0⟩ : ∃ x, xs[0]? = some x := ⟨_, List.getElem?_eq_getElem (by rw [hx]; simp)⟩
    rw [hx0] at h0
    obtain ⟨y, hy, hB1⟩ := h1.2 H enc w spare held n _ _ h0
    obtain ⟨z, hz, hB2⟩ := fields_read (g :: fs) (f.offset + b.sz) γ c B2 h2 H enc w spare held n cs (xs.drop 1) (by rw [hl]; show _ + (b.sz + c.sz) = _; omega) (by simp [hx]) (fun i f' hi => by
      rw [List.getElem?_drop, Nat.add_comm 1 i]
      exact hf (i + 1) f' (by simpa using hi))
    refine ⟨(y, z), ⟨_, _, ?_, hy, hz⟩, (hB (y, z)).2 ⟨hB1, hB2⟩⟩
    rw [h1.1, ← List.drop_drop, List.take_append_drop]
theorem opens_struct {α : Type} {d : Kd α} {B : α → Prop} {fs : Array Field} (ht : P.underlying t = some (.struct fs)) (hc : P.cellsOf t = d.sz) (h : Fields P fs.toList 0 α d B) : Opens P t d B :=
  ⟨hc, fun H enc w spare held fuel cs x hx => by
    obtain ⟨xs, n, _, _, hl, hlen, hf⟩ := DataW.trod_struct ht hx
    obtain ⟨y, hy, hB⟩ := fields_read fs.toList 0 α d B h H enc w spare held n cs xs (by rw [hl, hc]; omega) (by simpa using hlen) (fun i f hi => hf i f (by simpa using hi))
    exact ⟨y, hy, hB⟩⟩
/-- An array of two. -/
theorem opens_two {α : Type} {d : Kd α} {B : α → Prop} (ht : P.underlying t = some (.array 2 e)) (hc : P.cellsOf t = d.sz + d.sz) (he : Opens P e d B) : Opens P t (Kd.pair d d) (fun x => B x.1 ∧ B x.2) :=
  ⟨hc, fun H enc w spare held fuel cs x hx => by
    obtain ⟨xs, m, _, _, hl, hlen, hf⟩ := DataW.trod_array ht hx
    obtain ⟨x0, hx0⟩ : ∃ x, xs[0]? = some x := ⟨_, List.getElem?_eq_getElem (by rw [hlen]; omega)⟩
    obtain ⟨x1, hx1⟩ : ∃ x, xs[1]? = some x := ⟨_, List.getElem?_eq_getElem (by rw [hlen]; omega)⟩
    have h0 := hf 0 (by omega)
    have h1 := hf 1 (by omega)
    rw [hx0] at h0
    rw [hx1] at h1
    obtain ⟨y, hy, hB⟩ := he.2 H enc w spare held m _ _ h0
    obtain ⟨z, hz, hB'⟩ := he.2 H enc w spare held m _ _ h1
    refine ⟨(y, z), ⟨_, _, ?_, hy, hz⟩, hB, hB'⟩
    have e1 := he.1
    rw [Nat.zero_mul, Nat.one_mul, e1, List.drop_zero, List.take_of_length_le (l := cs.drop d.sz) (by rw [List.length_drop, hl, hc]; omega), List.take_append_drop]⟩
/-- An argument: what it is made of. -/
theorem opens_arg {α : Type} {d : Kd α} {B : α → Prop} (h : Opens P t d B) {H : Type} {enc : TypeId × Value → H} {w : World} {spare : Nat → Bool} {held : Bool} {v : Value} {x : DataW H} {ps : List MemPlace}
    (hv : DataW.Trod enc P w 0 spare held t v x ps) : ∃ y, d.K w y v.cells.toList ∧ B y := by
  obtain ⟨fuel, hf⟩ := hv
  exact h.2 H enc w spare held fuel _ _ hf
theorem agg_of_cells {v : Value} {cs : Array Value} {l : List Value} (h : v = .agg cs) (hl : v.cells.toList = l) : v = .agg l.toArray := by
  subst h
  have : cs.toList = l := hl
  rw [← this]
end Go.Proofs.YtjclfbcofclopaaDoor.Reads
