/- The program's text of a transducer, written by a builder: by hand. -/
import Derived.Test.YtjclfbcofclopaaDoorPTtAx
import Derived.Test.YtjclfbcofclopaaDoorText
import Derived.Test.YtjclfbcofclopaaDoorBuild
import Derived.Deep.RegionHeld3
import Derived.Deep.RegionWith
import Derived.Deep.LoopGhost
import Derived.WalkSpells
import Derived.Outline
import Derived.RangeFuncRecord
import Derived.IntWalk
namespace Go.Proofs.YtjclfbcofclopaaDoor.TTx
open Go.Proofs.YtjclfbcofclopaaDoor.PTtA Go.RowKit Go.Proofs.YtjclfbcofclopaaDoorW.PrintWords Go.Proofs.YtjclfbcofclopaaDoorW.PrintLast Go.Proofs.YtjclfbcofclopaaDoorW.PrintMore Go.Proofs.YtjclfbcofclopaaDoor.Txt Go.Proofs.YtjclfbcofclopaaDoor.Bld
theorem at_below {B b : Nat} {p : Value} {bs : List Value} {W W' : World} (h : BAt B b p bs W) (hb : Below W.heap.size W W') : BAt B b p bs W' := by
  have hlt := h.lt
  obtain ⟨hB, v, hbk, hown, hne⟩ := h
  exact ⟨hB, v, (hb.block b hlt).trans hbk, hown.kept (grown_of_below hb none) (by cases hv : v.ownBlock <;> simp), hne⟩
theorem isB_below {B b : Nat} {bs : List Value} {W W' : World} (h : IsB B b bs W) (hb : Below W.heap.size W W') : IsB B b bs W' := h.imp (fun h => at_below h hb) (fun h => at_below h hb)
/-- What stands in memory while the text is written: the transducer's own block, the builder with its bytes behind it. -/
structure J (w : World) (cs : Array Value) (bs : List Value) (W : World) : Prop where
  g0 : Glob w
  blk : W.heap[w.heap.size]? = some (.cells cs 30 (0, 0))
  bld : IsB (w.heap.size + 1) (w.heap.size + 1) bs W
  bel : Below w.heap.size w W
  lt : w.heap.size + 1 ≤ W.heap.size
theorem J.step {w : World} {cs : Array Value} {bs : List Value} {W W' : World} (h : J w cs bs W) (hb : Below W.heap.size W W') : J w cs bs W' :=
  ⟨h.g0, (hb.block _ h.lt).trans h.blk, isB_below h.bld hb, below_step h.bel hb, Nat.le_trans h.lt hb.size⟩
theorem J.lt2 {w : World} {cs : Array Value} {bs : List Value} {W : World} (h : J w cs bs W) : w.heap.size + 1 < W.heap.size := by
  rcases h.bld with h | h <;> exact h.lt
theorem J.glob {w : World} {cs : Array Value} {bs : List Value} {W : World} (h : J w cs bs W) : Glob W := glob_below h.g0 h.bel
theorem J.cell {w : World} {cs : Array Value} {bs : List Value} {W : World} (h : J w cs bs W) (i : Nat) : W.cell? ⟨w.heap.size, i, none⟩ = cs[i]? := blk_cell h.blk i
theorem J.write {w : World} {cs : Array Value} {bs : List Value} {W : World} (h : J w cs bs W) (s : ByteArray) (hl : bs.length + s.size ≤ 140737488355328) :
    Calls Tryd.prog 110 #[.pointer (some ⟨w.heap.size + 1, 0, none⟩), .string s] W fun e W' => e = .returned (.tuple #[.int .i64 s.size, .nilIface]) ∧ J w cs (bs ++ Lib.strCells s) W' ∧ ∀ (k : Nat) (es : Array Value) (t : TypeId), k ≠ w.heap.size + 1 → t ≠ 5 → W.heap[k]? = some (.cells es t (0, 0)) → W'.heap[k]? = some (.cells es t (0, 0)) := by
  refine (Bld.write (w.heap.size + 1) (w.heap.size + 1) bs s W h.bld hl h.lt).mono ?_
  rintro e W' ⟨rfl, hB, hb, hk⟩
  exact ⟨rfl, ⟨h.g0, (hb.block _ (Nat.lt_succ_self _)).trans h.blk, hB, h.bel.trans (hb.mono (Nat.le_succ _)), Nat.le_trans h.lt hb.size⟩, hk⟩
theorem J.start {w : World} {cs : Array Value} (hG : Glob w) : J w cs [] ((w.alloc (.cells cs 30)).alloc (.cells #[.pointer none, .slice none 0 0] 135)) := by
  have hb : Below w.heap.size w ((w.alloc (.cells cs 30)).alloc (.cells #[.pointer none, .slice none 0 0] 135)) := below_alloc (below_alloc (Below.refl _ _) _) _
  refine ⟨hG, ?_, ?_, hb, by simp⟩
  · rw [Lib.alloc_old _ _ _ (by simp)]
    exact World.alloc_heap_new w _
  · have := Lib.fresh_isBuilder 135 5 (w.alloc (.cells cs 30))
    simpa using this
/-- .. and, while an edge is written, the edge's own block. -/
structure JE (w : World) (cs : Array Value) (bs : List Value) (eb : Nat) (es : Array Value) (W : World) : Prop where
  j : J w cs bs W
  e : W.heap[eb]? = some (.cells es 80 (0, 0))
theorem JE.step {w : World} {cs es : Array Value} {bs : List Value} {eb : Nat} {W W' : World} (h : JE w cs bs eb es W) (hb : Below W.heap.size W W') : JE w cs bs eb es W' := ⟨h.j.step hb, blk_below h.e hb⟩
theorem JE.cell {w : World} {cs es : Array Value} {bs : List Value} {eb : Nat} {W : World} (h : JE w cs bs eb es W) (i : Nat) : W.cell? ⟨eb, i, none⟩ = es[i]? := blk_cell h.e i
/-- What is written ahead; for the states. -/
def head (t1 t2 : ByteArray) : List Value := Lib.strCells (⟨#[116, 114, 97, 110, 115, 100, 117, 99, 101, 114, 32]⟩ ++ t1 ++ ⟨#[32]⟩ ++ t2 ++ ⟨#[10]⟩)
def yn (b : Bool) : ByteArray := if b = true then ⟨#[121, 101, 115]⟩ else ⟨#[110, 111]⟩
def yes (l : List Bool) : List Value := l.flatMap fun b => Lib.strCells (yn b ++ ⟨#[10]⟩)
/-- A word in a text. -/
def dashB (a : ByteArray) : ByteArray := if a.toList = ([] : List UInt8) then ⟨#[45]⟩ else a
theorem dash_f (a : ByteArray) : impl_dash.f a = some (dashB a) := by unfold impl_dash.f dashB; split <;> rfl
theorem dash_size (a : ByteArray) (h : a.size ≤ 1000) : (dashB a).size ≤ 1000 := by
  unfold dashB; split
  · decide
  · exact h
/-- A number in a text. -/
def T (n : Int) : ByteArray := ⟨(Lib.itoa n).toArray⟩
def edge (x : S80) : ByteArray := T x.f0 ++ ⟨#[32]⟩ ++ T x.f1 ++ ⟨#[32]⟩ ++ dashB x.f2 ++ ⟨#[32]⟩ ++ dashB x.f3 ++ ⟨#[10]⟩
def edges (l : List S80) : List Value := l.flatMap fun x => Lib.strCells (edge x)
/-- What the walk asks of an edge. -/
def okE (x : S80) : Prop := (-9223372036854775808 ≤ x.f0 ∧ x.f0 ≤ 9223372036854775807) ∧ (-9223372036854775808 ≤ x.f1 ∧ x.f1 ≤ 9223372036854775807) ∧ (T x.f0).size ≤ 1000 ∧ (T x.f1).size ≤ 1000 ∧ x.f2.size ≤ 1000 ∧ x.f3.size ≤ 1000
theorem edge_size (x : S80) (h : okE x) : (edge x).size ≤ 4004 := by
  obtain ⟨_, _, h1, h2, h3, h4⟩ := h
  have d1 := dash_size _ h3
  have d2 := dash_size _ h4
  have e1 : (ByteArray.mk #[32]).size = 1 := rfl
  have e2 : (ByteArray.mk #[10]).size = 1 := rfl
  unfold edge
  simp only [ByteArray.size_append]
  omega
theorem edges_len : ∀ l : List S80, (∀ x ∈ l, okE x) → (edges l).length ≤ 4004 * l.length
  | [], _ => by simp [edges]
  | x :: l, h => by
    have := edges_len l (fun y hy => h y (List.mem_cons_of_mem _ hy))
    have h2 := edge_size x (h x (List.mem_cons_self ..))
    unfold edges at this ⊢
    rw [List.flatMap_cons, List.length_append, Lib.strCells_length, List.length_cons]
    omega
theorem edges_next (l : List S80) (m : Nat) (h : m < l.length) : edges (l.take m) ++ Lib.strCells (edge l[m]) = edges (l.take (m + 1)) := by
  unfold edges
  rw [List.take_succ_eq_append_getElem h, List.flatMap_append, List.flatMap_cons, List.flatMap_nil, List.append_nil]
/-- The text as bytes. -/
def bytes (t1 t2 : ByteArray) (l1 : List Bool) (l2 : List S80) : List UInt8 :=
  ((⟨#[116, 114, 97, 110, 115, 100, 117, 99, 101, 114, 32]⟩ : ByteArray) ++ t1 ++ ⟨#[32]⟩ ++ t2 ++ ⟨#[10]⟩).data.toList ++ (l1.flatMap fun b => (yn b ++ ⟨#[10]⟩).data.toList) ++ l2.flatMap fun x => (edge x).data.toList
def ttB (t1 t2 : ByteArray) (l1 : List Bool) (l2 : List S80) : ByteArray := ⟨(bytes t1 t2 l1 l2).toArray⟩
theorem cells_append (a b : List UInt8) : Lib.byteCells (a ++ b) = Lib.byteCells a ++ Lib.byteCells b := by simp [Lib.byteCells]
theorem cells_flat {α : Type} (f : α → ByteArray) : ∀ l : List α, (l.flatMap fun x => Lib.strCells (f x)) = Lib.byteCells (l.flatMap fun x => (f x).data.toList)
  | [] => by simp [Lib.byteCells]
  | x :: l => by rw [List.flatMap_cons, List.flatMap_cons, cells_append, cells_flat f l]; rfl
theorem whole (t1 t2 : ByteArray) (l1 : List Bool) (l2 : List S80) : head t1 t2 ++ yes l1 ++ edges l2 = Lib.byteCells (bytes t1 t2 l1 l2) := by
  unfold head yes edges bytes
  rw [cells_flat, cells_flat, cells_append, cells_append]
  rfl
theorem yn_f (b : Bool) : impl_yesNo.f b = some (yn b) := by cases b <;> rfl
theorem yn_size (b : Bool) : (yn b).size ≤ 3 := by cases b <;> decide
theorem nl_size (s : ByteArray) : (s ++ (⟨#[10]⟩ : ByteArray)).size = s.size + 1 := by rw [ByteArray.size_append]; rfl
theorem yes_len : ∀ l : List Bool, (yes l).length ≤ 4 * l.length
  | [] => by simp [yes]
  | b :: l => by
    have := yes_len l
    have h2 := yn_size b
    unfold yes at this ⊢
    rw [List.flatMap_cons, List.length_append, Lib.strCells_length, nl_size, List.length_cons]
    omega
theorem yes_next (l : List Bool) (m : Nat) (h : m < l.length) : yes (l.take m) ++ Lib.strCells (yn l[m] ++ ⟨#[10]⟩) = yes (l.take (m + 1)) := by
  unfold yes
  rw [List.take_succ_eq_append_getElem h, List.flatMap_append, List.flatMap_cons, List.flatMap_nil, List.append_nil]
theorem head_len (t1 t2 : ByteArray) (z1 : t1.size ≤ 1000) (z2 : t2.size ≤ 1000) : (head t1 t2).length ≤ 2013 := by
  unfold head
  have e0 : (ByteArray.mk #[116, 114, 97, 110, 115, 100, 117, 99, 101, 114, 32]).size = 11 := rfl
  have e1 : (ByteArray.mk #[32]).size = 1 := rfl
  rw [Lib.strCells_length, nl_size, ByteArray.size_append, ByteArray.size_append, ByteArray.size_append]
  omega
set_option maxHeartbeats 8000000 in
set_option maxRecDepth 100000 in
theorem tt (A1 : Option Addr) (c1 : Nat) (l1 : List Bool) (A2 : Option Addr) (c2 : Nat) (l2 : List S80) (a0 : Int) (t1 t2 : ByteArray) (w : World) (hG : Glob w)
    (hr1 : Kd.C Kd.bool w A1 l1.length l1) (hr2 : Kd.C k80 w A2 l2.length l2)
    (C1 : ∀ W, Glob W → Calls Tryd.prog 111 #[.int .i64 (l1.length : Int)] W fun e w' => e = .returned (.string t1) ∧ Below W.heap.size W w')
    (C2 : ∀ W, Glob W → Calls Tryd.prog 111 #[.int .i64 a0] W fun e w' => e = .returned (.string t2) ∧ Below W.heap.size W w')
    (z1 : t1.size ≤ 1000) (z2 : t2.size ≤ 1000) (L1 : l1.length ≤ 40) (L2 : l2.length ≤ 200) (hE : ∀ x ∈ l2, okE x) :
    Calls Tryd.prog 57 #[.agg #[.int .i64 a0, .slice A1 l1.length c1, .slice A2 l2.length c2]] w fun e w' => e = .returned (.string (ttB t1 t2 l1 l2)) ∧ Below w.heap.size w w' := by
  have j0 := J.start (cs := #[.int .i64 a0, .slice A1 l1.length c1, .slice A2 l2.length c2]) hG
  have jd := j0.step (below_drew1 (Below.refl _ _))
  have h0 := jd.cell 0
  have h1 := jd.cell 1
  simp only [List.getElem?_toArray, List.getElem?_cons_zero, List.getElem?_cons_succ] at h0 h1
  have q1 : (11 + t1.size ≤ 9223372036854775807) = True := eq_true (by omega)
  have q2 : (11 + t1.size + 1 ≤ 9223372036854775807) = True := eq_true (by omega)
  have q3 : (11 + t1.size + 1 + t2.size ≤ 9223372036854775807) = True := eq_true (by omega)
  have q4 : (11 + t1.size + 1 + t2.size + 1 ≤ 9223372036854775807) = True := eq_true (by omega)
  have p1 : (9223372036854775807 < 11 + t1.size) = False := eq_false (by omega)
  have p2 : (9223372036854775807 < 11 + t1.size + 1) = False := eq_false (by omega)
  have p3 : (9223372036854775807 < 11 + t1.size + 1 + t2.size) = False := eq_false (by omega)
  have p4 : (9223372036854775807 < 11 + t1.size + 1 + t2.size + 1) = False := eq_false (by omega)
  have s1 : ((ByteArray.mk #[116, 114, 97, 110, 115, 100, 117, 99, 101, 114, 32]).size) = 11 := rfl
  go_enter Tryd.func57, Tryd.ntmps57
  go_wp2
  go_region_held3 (fun w' => w'.cell? ⟨w.heap.size, 0, none⟩ = some (.int .i64 a0) ∧ w'.cell? ⟨w.heap.size, 1, none⟩ = some (.slice A1 l1.length c1)) (go_keep)
    (first
      | (go_at_call 111; with_reducible refine (C1 _ ?_).mono ?_; (exact J.glob (by assumption)); rintro e w1 ⟨rfl, hb1⟩; have j1 := J.step (by assumption) hb1; have h0' := j1.cell 0; have h1' := j1.cell 1; simp only [List.getElem?_toArray, List.getElem?_cons_zero, List.getElem?_cons_succ] at h0' h1')
      | (go_at_call 111; with_reducible refine (C2 _ ?_).mono ?_; (exact J.glob (by assumption)); rintro e w1 ⟨rfl, hb1⟩; have j1 := J.step (by assumption) hb1; have h0' := j1.cell 0; have h1' := j1.cell 1; simp only [List.getElem?_toArray, List.getElem?_cons_zero, List.getElem?_cons_succ] at h0' h1')
      | (go_at_call 110; refine (J.write (by assumption) _ ?_).mono ?_; (simp only [ByteArray.size_append, List.length_nil]; rw [s1]; have e1 : (ByteArray.mk #[32]).size = 1 := rfl; have e2 : (ByteArray.mk #[10]).size = 1 := rfl; omega); rintro e w1 ⟨rfl, j1, _⟩; have h0' := j1.cell 0; have h1' := j1.cell 1; simp only [List.getElem?_toArray, List.getElem?_cons_zero, List.getElem?_cons_succ] at h0' h1'))
  clear q1 q2 q3 q4 p1 p2 p3 p4 h0 h1 jd j0 s1
  have h1' := j1.cell 1
  simp only [List.getElem?_toArray, List.getElem?_cons_zero, List.getElem?_cons_succ] at h1'
  go_wp2_with fail
  go_loopg [23] l1.length (fun k i wr => ∃ m : Nat, m ≤ l1.length ∧ k = l1.length - m ∧ i = .int .i64 (m : Int) ∧ J w #[.int .i64 a0, .slice A1 l1.length c1, .slice A2 l2.length c2] (head t1 t2 ++ yes (l1.take m)) wr)
  case atStart => exact ⟨0, Nat.zero_le _, by simp, rfl, by simpa [head, yes] using j1⟩
  case round =>
    obtain ⟨m, hm, hk, rfl, j⟩ := hrel
    clear h1' j1
    by_cases hlt : m < l1.length
    · have hlt1 : ((m : Int) < (l1.length : Int)) = True := eq_true (by omega)
      have h0m : (0 ≤ (m : Int)) = True := eq_true (by omega)
      obtain ⟨ad, rfl, hc⟩ := Kd.at_bool hr1 (m : Int) (by omega) (by omega)
      have hc' : wr.cell? (ad.add m) = some (.bool (rdOf false l1 (m : Int))) := by
        rw [Int.toNat_natCast] at hc
        rw [j.bel.cell (World.block_lt_of_cell? _ _ hc)]; exact hc
      have e1 : (IntKind.i64.wrap ((m : Int) + 1)) = ((m + 1 : Nat) : Int) := by rw [IntWalk.i64_in _ (by omega)]; omega
      have hs := yn_size l1[m]
      have hl := head_len t1 t2 z1 z2
      have hy := yes_len (l1.take m)
      have ht : (l1.take m).length = m := by simp; omega
      have es : rdOf false l1 (m : Int) = l1[m] := by unfold rdOf; simp [List.getD, List.getElem?_eq_getElem hlt]
      have hn := yes_next l1 m hlt
      rw [es] at hc'
      clear es
      have hy1 : (9223372036854775807 < (yn l1[m]).size + 1) = False := eq_false (by omega)
      have hy2 : ((yn l1[m]).size + 1 ≤ 9223372036854775807) = True := eq_true (by omega)
      go_wp2_with (first
        | (go_at_call 112; refine (impl_yesNo.calls _ (yn l1[m]) _ (yn_f _)).mono ?_; rintro e w2 ⟨rfl, hd⟩; have j2 := j.step hd.below)
        | (go_at_call 110; refine (J.write (by assumption) _ (by rw [List.length_append, nl_size]; omega)).mono ?_; rintro e w3 ⟨rfl, j3, _⟩))
      rw [List.append_assoc, hn] at j3
      go_roundg (l1.length - (m + 1))
      case measure => omega
      case rel => exact ⟨m + 1, by omega, rfl, rfl, j3⟩
    · have hlt1 : ((m : Int) < (l1.length : Int)) = False := eq_false (by omega)
      have em : l1.take m = l1 := List.take_of_length_le (by omega)
      rw [em] at j
      have h2 := j.cell 2
      simp only [List.getElem?_toArray, List.getElem?_cons_zero, List.getElem?_cons_succ] at h2
      go_wp2_with fail
      clear h2
      go_loopg [35] l2.length (fun k i wq => ∃ m : Nat, m ≤ l2.length ∧ k = l2.length - m ∧ i = .int .i64 (m : Int) ∧ J w #[.int .i64 a0, .slice A1 l1.length c1, .slice A2 l2.length c2] (head t1 t2 ++ yes l1 ++ edges (l2.take m)) wq)
      case atStart => exact ⟨0, Nat.zero_le _, by simp, rfl, by simpa [edges] using j⟩
      case round =>
        clear j hlt1 em
        obtain ⟨q, hq, hk', rfl, j⟩ := hrel
        by_cases hlu : q < l2.length
        · have hlt1 : ((q : Int) < (l2.length : Int)) = True := eq_true (by omega)
          have h0m : (0 ≤ (q : Int)) = True := eq_true (by omega)
          obtain ⟨ad, rfl, k0, k1, k2, k3⟩ := at_T80 hr2 (q : Int) (by omega) (by omega)
          have es : rd_T80 l2 (q : Int) = l2[q] := by unfold rd_T80; simp [List.getD, List.getElem?_eq_getElem hlu]
          rw [es, Int.toNat_natCast] at k0 k1 k2 k3
          clear es
          have hx := hE l2[q] (List.getElem_mem hlu)
          have hn := edges_next l2 q hlu
          have b0 := (j.bel.cell (World.block_lt_of_cell? _ _ k0)).trans k0
          have b1 := (j.bel.cell (World.block_lt_of_cell? _ _ k1)).trans k1
          have b2 := (j.bel.cell (World.block_lt_of_cell? _ _ k2)).trans k2
          have b3 := (j.bel.cell (World.block_lt_of_cell? _ _ k3)).trans k3
          clear k0 k1 k2 k3
          have e1 : (IntKind.i64.wrap ((q : Int) + 1)) = ((q + 1 : Nat) : Int) := by rw [IntWalk.i64_in _ (by omega)]; omega
          generalize l2[q] = x at hx hn b0 b1 b2 b3
          obtain ⟨hf0, hf1, y1, y2, y3, y4⟩ := hx
          have CA : ∀ W, Glob W → Calls Tryd.prog 111 #[.int .i64 x.f0] W fun e w' => e = .returned (.string (T x.f0)) ∧ Below W.heap.size W w' := fun W hW => impl_text.calls x.f0 _ W hW (by unfold impl_text.f T; rw [if_pos hf0])
          have CB : ∀ W, Glob W → Calls Tryd.prog 111 #[.int .i64 x.f1] W fun e w' => e = .returned (.string (T x.f1)) ∧ Below W.heap.size W w' := fun W hW => impl_text.calls x.f1 _ W hW (by unfold impl_text.f T; rw [if_pos hf1])
          have CD : ∀ W, Calls Tryd.prog 113 #[.string x.f2] W fun e w' => e = .returned (.string (dashB x.f2)) ∧ Below W.heap.size W w' := fun W => (impl_dash.calls x.f2 _ W (dash_f _)).mono fun e w' ⟨h1, h2⟩ => ⟨h1, h2.below⟩
          have CE : ∀ W, Calls Tryd.prog 113 #[.string x.f3] W fun e w' => e = .returned (.string (dashB x.f3)) ∧ Below W.heap.size W w' := fun W => (impl_dash.calls x.f3 _ W (dash_f _)).mono fun e w' ⟨h1, h2⟩ => ⟨h1, h2.below⟩
          replace y3 := dash_size _ y3
          replace y4 := dash_size _ y4
          unfold edge at hn
          generalize T x.f0 = u1 at *
          generalize T x.f1 = u2 at *
          generalize dashB x.f2 = d1 at *
          generalize dashB x.f3 = d2 at *
          have q0 : (u1.size + 1 ≤ 9223372036854775807) = True := eq_true (by omega)
          have p0 : (9223372036854775807 < u1.size + 1) = False := eq_false (by omega)
          have q1 : (u1.size + 1 + u2.size ≤ 9223372036854775807) = True := eq_true (by omega)
          have p1 : (9223372036854775807 < u1.size + 1 + u2.size) = False := eq_false (by omega)
          have q2 : (u1.size + 1 + u2.size + 1 ≤ 9223372036854775807) = True := eq_true (by omega)
          have p2 : (9223372036854775807 < u1.size + 1 + u2.size + 1) = False := eq_false (by omega)
          have q3 : (u1.size + 1 + u2.size + 1 + d1.size ≤ 9223372036854775807) = True := eq_true (by omega)
          have p3 : (9223372036854775807 < u1.size + 1 + u2.size + 1 + d1.size) = False := eq_false (by omega)
          have q4 : (u1.size + 1 + u2.size + 1 + d1.size + 1 ≤ 9223372036854775807) = True := eq_true (by omega)
          have p4 : (9223372036854775807 < u1.size + 1 + u2.size + 1 + d1.size + 1) = False := eq_false (by omega)
          have q5 : (u1.size + 1 + u2.size + 1 + d1.size + 1 + d2.size ≤ 9223372036854775807) = True := eq_true (by omega)
          have p5 : (9223372036854775807 < u1.size + 1 + u2.size + 1 + d1.size + 1 + d2.size) = False := eq_false (by omega)
          have q6 : (u1.size + 1 + u2.size + 1 + d1.size + 1 + d2.size + 1 ≤ 9223372036854775807) = True := eq_true (by omega)
          have p6 : (9223372036854775807 < u1.size + 1 + u2.size + 1 + d1.size + 1 + d2.size + 1) = False := eq_false (by omega)
          have hl := head_len t1 t2 z1 z2
          have hy := yes_len l1
          have hyq := edges_len (l2.take q) (fun z hz => hE z (List.mem_of_mem_take hz))
          have htq : (l2.take q).length = q := by simp; omega
          have je : JE w #[.int .i64 a0, .slice A1 l1.length c1, .slice (some ad) l2.length c2] (head t1 t2 ++ yes l1 ++ edges (l2.take q)) wr.heap.size #[.int .i64 x.f0, .int .i64 x.f1, .string x.f2, .string x.f3] (wr.alloc (.cells #[.int .i64 x.f0, .int .i64 x.f1, .string x.f2, .string x.f3] 80)) := ⟨j.step (below_alloc (Below.refl _ _) _), World.alloc_heap_new wr _⟩
          have jn := je.step (below_drew1 (Below.refl _ _))
          have g0 := jn.cell 0
          have g1 := jn.cell 1
          have g2 := jn.cell 2
          have g3 := jn.cell 3
          simp only [List.getElem?_toArray, List.getElem?_cons_zero, List.getElem?_cons_succ] at g0 g1 g2 g3
          go_wp2_with fail
          go_region_held3 (fun w' => w'.cell? ⟨wr.heap.size, 0, none⟩ = some (.int .i64 x.f0) ∧ w'.cell? ⟨wr.heap.size, 1, none⟩ = some (.int .i64 x.f1) ∧ w'.cell? ⟨wr.heap.size, 2, none⟩ = some (.string x.f2) ∧ w'.cell? ⟨wr.heap.size, 3, none⟩ = some (.string x.f3)) (go_keep)
            (first
              | (go_at_call 111; with_reducible refine (CA _ ?_).mono ?_; (exact (JE.j (by assumption)).glob); rintro e wn ⟨rfl, hbn⟩; have jn := JE.step (by assumption) hbn; have g0 := jn.cell 0; have g1 := jn.cell 1; have g2 := jn.cell 2; have g3 := jn.cell 3; simp only [List.getElem?_toArray, List.getElem?_cons_zero, List.getElem?_cons_succ] at g0 g1 g2 g3)
              | (go_at_call 111; with_reducible refine (CB _ ?_).mono ?_; (exact (JE.j (by assumption)).glob); rintro e wn ⟨rfl, hbn⟩; have jn := JE.step (by assumption) hbn; have g0 := jn.cell 0; have g1 := jn.cell 1; have g2 := jn.cell 2; have g3 := jn.cell 3; simp only [List.getElem?_toArray, List.getElem?_cons_zero, List.getElem?_cons_succ] at g0 g1 g2 g3)
              | (go_at_call 113; with_reducible refine (CD _).mono ?_; rintro e wn ⟨rfl, hbn⟩; have jn := JE.step (by assumption) hbn; have g0 := jn.cell 0; have g1 := jn.cell 1; have g2 := jn.cell 2; have g3 := jn.cell 3; simp only [List.getElem?_toArray, List.getElem?_cons_zero, List.getElem?_cons_succ] at g0 g1 g2 g3)
              | (go_at_call 113; with_reducible refine (CE _).mono ?_; rintro e wn ⟨rfl, hbn⟩; have jn := JE.step (by assumption) hbn; have g0 := jn.cell 0; have g1 := jn.cell 1; have g2 := jn.cell 2; have g3 := jn.cell 3; simp only [List.getElem?_toArray, List.getElem?_cons_zero, List.getElem?_cons_succ] at g0 g1 g2 g3)
              | (go_at_call 110; refine (J.write (JE.j (by assumption)) _ ?_).mono ?_; (have v1 : (ByteArray.mk #[32]).size = 1 := rfl; have v2 : (ByteArray.mk #[10]).size = 1 := rfl; simp only [ByteArray.size_append, List.length_append]; omega); rintro e w9 ⟨rfl, j9, hk9⟩; have hk := hk9 wr.heap.size #[.int .i64 x.f0, .int .i64 x.f1, .string x.f2, .string x.f3] 80 (by have := j.lt2; omega) (by decide) (JE.e (by assumption)); have jn := JE.mk j9 hk; have g0 := jn.cell 0; have g1 := jn.cell 1; have g2 := jn.cell 2; have g3 := jn.cell 3; simp only [List.getElem?_toArray, List.getElem?_cons_zero, List.getElem?_cons_succ] at g0 g1 g2 g3))
          rw [List.append_assoc, hn] at j9
          go_wp2_with fail
          go_roundg (l2.length - (q + 1))
          case measure => omega
          case rel => exact ⟨q + 1, by omega, rfl, rfl, j9⟩
        · have hlt1 : ((q : Int) < (l2.length : Int)) = False := eq_false (by omega)
          have eq' : l2.take q = l2 := List.take_of_length_le (by omega)
          rw [eq', whole] at j
          have hG9 := j.bld
          go_wp2_with (go_at_call 114; refine (Tryd.Builder_String_any (w.heap.size + 1) (w.heap.size + 1) (bytes t1 t2 l1 l2) _ (isB_below j.bld (by repeat (first | exact Below.refl _ _ | apply below_drew1 | apply pw_below_drewN))) (by first | exact j.lt | simpa using j.lt)).mono ?_; rintro e w' ⟨rfl, hbe⟩)
          go_ret
          exact ⟨by simp [ttB], j.bel.trans (hbe.mono (Nat.le_succ _))⟩
end Go.Proofs.YtjclfbcofclopaaDoor.TTx
