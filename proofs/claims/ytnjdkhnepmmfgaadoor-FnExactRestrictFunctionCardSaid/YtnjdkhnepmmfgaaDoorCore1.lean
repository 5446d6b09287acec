/- Parts of the proof, put together by a program of the session. -/
import Derived.Test.YtnjdkhnepmmfgaaDoorCore0
import Derived.Test.YtnjdkhnepmmfgaaDoorProg
import Derived.Below
import Derived.Deep.Draws
import Derived.Deep.AppendLies
import Derived.Maps.AppendAt
import Derived.OwnWalk
import Derived.Laws.BytesArg
import Derived.Laws.MakeOwn
import Derived.Laws.OwnMore
import Derived.Deep.OwnRows
import Derived.Tactics
import Derived.Lib.ConvBytes
import Derived.Laws.Slices
import Derived.WalkKit
import Derived.KernelRfl
import Derived.RowKit3
import Derived.Deep.LoopGhost
import Derived.Deep.QuietTactic
import Derived.BigQuiet
import Derived.WideLaws
import Derived.Deep.DeepCutAuto
import Derived.Deep.CutBlock
import Derived.Deep.RegionHeld3
import Derived.Laws.Rows
import Derived.Lib.AppendStr
import Derived.ArgAppend
import Derived.Laws.IdiomCopy
import Derived.OrdersHeld
import Derived.Laws.BitsLemmas
import Derived.RowKit
import Derived.ChangeKeysEq
import Derived.Test.YtnjdkhnepmmfgaaDoorCWords
import Derived.Test.YtnjdkhnepmmfgaaDoorCLast
import Derived.Test.YtnjdkhnepmmfgaaDoorCTab
import Derived.Test.YtnjdkhnepmmfgaaDoorCFour
import Derived.Test.YtnjdkhnepmmfgaaDoorCQPut
import Derived.Test.YtnjdkhnepmmfgaaDoorCApart
import Derived.Test.YtnjdkhnepmmfgaaDoorCArr
import Derived.Test.YtnjdkhnepmmfgaaDoorCZeros
import Derived.Test.YtnjdkhnepmmfgaaDoorCFoot
import Derived.Test.YtnjdkhnepmmfgaaDoorCKept
import Derived.Test.YtnjdkhnepmmfgaaDoorCShare
import Derived.Test.YtnjdkhnepmmfgaaDoorCN
import Derived.Test.YtnjdkhnepmmfgaaDoorCFootNe
import Derived.Test.YtnjdkhnepmmfgaaDoorCAt
import Derived.Test.YtnjdkhnepmmfgaaDoorCEqStruct
import Derived.Test.YtnjdkhnepmmfgaaDoorCRepsOne
import Derived.Test.YtnjdkhnepmmfgaaDoorCInv
import Derived.Test.YtnjdkhnepmmfgaaDoorCInvWords
import Derived.Test.YtnjdkhnepmmfgaaDoorCGuard
import Derived.Test.YtnjdkhnepmmfgaaDoorCNEv
import Derived.Test.YtnjdkhnepmmfgaaDoorCMore
import Derived.WalkSpells
import Derived.Outline
import Derived.IntWalk
import Derived.Carry
import Derived.RangeFuncRecord
import Derived.Deep.RegionWith
import Derived.WalkLawsBesides
import Derived.OneCell
import Derived.Shelf.LaysM
import Derived.Shelf.Strconv.Itoa3
import Derived.Shelf.Slices.Cells
import Derived.Shelf.SlicesE.Clone
import Derived.Maps.OwnSet
import Derived.DeepKeys4
import Init
import Derived.Lib.AppendIntMem
import Derived.Lib.LaidTab
import Derived.Lib.ItoaNum
namespace Go.Proofs.YtnjdkhnepmmfgaaDoor.Rt
set_option linter.unusedVariables false
open Go Go.RowKit Go.Proofs.YtnjdkhnepmmfgaaDoorW.PrintWords Go.Proofs.YtnjdkhnepmmfgaaDoorW.PrintLast Go.Proofs.YtnjdkhnepmmfgaaDoorW.PrintMore
section
variable {P : Program} {ops : Array Oper} {Q : Exit → Act → World → Prop} {md : Region.Mode} {S : World → Prop} {ds : List Nat}
theorem st {id : Nat} {a : Act} {w : World} (n : Nat) (S : World → Prop) (ds : List Nat) (hS : S w.drew) (h : S w.drew → wpAnyLast P .any ops Q S ds n (Array.replicate n false) a w.drew) (hm : P.follows .mixedOrders = true := by kernel_rfl) (hn : ops.size = n := by rfl) : (Code.region id ops true).wp P Q a w :=
 start_ _ hm hn rfl hS h
theorem pu (i N : Nat) {oi : Oper} {v : Value} {fuel : Nat} {l : Array Bool} {a a' : Act} {w : World} (h : wpAnyLast P md ops Q S ds fuel (l.setIfInBounds i true) a' w) (hi : ops[i]? = some oi := by rfl) (hN : oi.dst = some N := by rfl) (hc : anyB md ops l (l.setIfInBounds i true) i = true := by kernel_rfl) (hQ : ∀ c a w, Q (.panic c) (a.put oi.dst v) w → Q (.panic c) a w := by exact fun _ _ _ h => h)
  (hy : Yields P ops oi v a := by (refine Or.inl ⟨by rfl, ?_⟩; intro w'; go_simp; with_reducible rfl)) (ha : a.put (some N) v = a' := by (simp only [Act.put, Za, Zb, Zc, i64_w, i32_w]; rfl)) : wpAnyLast P md ops Q S ds (fuel + 1) l a w :=
 pure_ _ hi hN hc hQ hy ha h
theorem tk (i N : Nat) {oi : Oper} {v : Value} {fuel : Nat} {l : Array Bool} {a a' : Act} {w : World} (hS : S w) (h : wpAnyLast P md ops Q S ds fuel (l.setIfInBounds i true) a' w) (hi : ops[i]? = some oi := by rfl) (hN : oi.dst = some N := by rfl) (hc : takeB md ops ds l (l.setIfInBounds i true) i = true := by kernel_rfl) (hQ : ∀ c a w, Q (.panic c) (a.put oi.dst v) w → Q (.panic c) a w := by exact fun _ _ _ h => h)
  (hy : YieldsIf P ops S oi v a := by (refine Or.inl ⟨by rfl, ?_⟩; intro w' hs; (repeat (have hs0 := hs.1; replace hs := hs.2)); go_simp; with_reducible rfl)) (ha : a.put (some N) v = a' := by (simp only [Act.put, Za, Zb, Zc, i64_w, i32_w]; rfl)) : wpAnyLast P md ops Q S ds (fuel + 1) l a w :=
 take_ _ hi hN hc hQ hy hS ha h
theorem nm {fuel : Nat} {l : Array Bool} {a a' : Act} {w : World} (h : wpAnyLast P md ops Q S ds fuel l a' w) (ha : a = a' := by (simp only [Act.put, Za, Zb, Zc, i64_w, i32_w]; rfl)) : wpAnyLast P md ops Q S ds fuel l a w := norm_ ha h
theorem on (i N : Nat) {oi : Oper} {fuel : Nat} {l : Array Bool} {a : Act} {w : World}
  (h : ∀ K : Act → World → Prop, Shut (∀ a' w', S w' → (S w' → wpAnyLast P md ops Q S ds fuel (l.setIfInBounds i true) a' w') → K a' w') → if Region.wanted oi (yielded ops a.tmps) = true then Oper.wp P oi a w K Q else K (a.put (some N) undef) w) (hi : ops[i]? = some oi := by rfl) (hN : oi.dst = some N := by rfl) (hc : readyB md ops l (l.setIfInBounds i true) i = true := by kernel_rfl) (hd : i ∉ ds := by decide) :
  wpAnyLast P md ops Q S ds (fuel + 1) l a w := one_ _ hi hN hc hd h
theorem la (i : Nat) {oi : Oper} {fuel : Nat} {l : Array Bool} {a : Act} {w : World}
  (h : ∀ K : Act → World → Prop, Shut (∀ a' w', wpAnyLast P md ops Q S ds fuel (l.setIfInBounds i true) a' w' → K a' w') → if Region.wanted oi (yielded ops a.tmps) = true then Oper.wp P oi a w K Q else K (a.put none undef) w) (hi : ops[i]? = some oi := by rfl) (hN : oi.dst = none := by rfl) (hc : readyB md ops l (l.setIfInBounds i true) i = true := by kernel_rfl) (hd : i ∈ ds := by decide) :
  wpAnyLast P md ops Q S ds (fuel + 1) l a w := last_ _ hi hN hc hd h
theorem dn {l : Array Bool} {a : Act} {w : World} {n : Nat} (h : Q .normal a w) (hr : (Region.ready md ops l == []) = true := by kernel_rfl) : wpAnyLast P md ops Q S ds n l a w := done_ hr h
theorem sk {oi : Oper} {a : Act} {w : World} {K : Act → World → Prop} (w1 : World) (h : K a w1) (hw : Region.wanted oi (yielded ops a.tmps) = true := by rfl) (hN : oi.dst = none := by rfl) (hrun : (execOp a.eval oi).run P w = .ok .skip w1 := by first | (go_simp; done) | (go_simp; rfl)) : if Region.wanted oi (yielded ops a.tmps) = true then Oper.wp P oi a w K Q else K (a.put none undef) w := skip_ hw hN hrun h
end
end Go.Proofs.YtnjdkhnepmmfgaaDoor.Rt
namespace Go.Proofs
open Go.Shelf
def Tryd.laysM171_ren : Go.Shelf.Ren := ⟨fun | 171 => 115 | 243 => 123 | 246 => 124 | 283 => 125 | 284 => 126 | 285 => 127 | 286 => 128 | 129 => 130 | 317 => 129 | 318 => 131 | 319 => 132 | 320 => 133 | 337 => 134 | 338 => 135 | n => n, fun | 3 => 3 | 9 => 9 | 2 => 2 | 4 => 4 | 171 => 151 | 0 => 0 | 53 => 152 | 37 => 132 | 5 => 5 | 173 => 155 | 212 => 158 | 51 => 159 | 20 => 20 | 213 => 160 | 46 => 125 | 232 => 163 | 233 => 164 | n => n, fun | 17 => 0 | 18 => 1 | 19 => 2 | n => n⟩
theorem Tryd.laysM171 : Go.Proofs.LaysM.n171 Tryd.prog Tryd.laysM171_ren := {
 mixed := by kernel_rfl
 f129 := Tryd.func130.trans (congrArg some (by kernel_rfl))
 f171 := Tryd.func115.trans (congrArg some (by kernel_rfl))
 f243 := Tryd.func123.trans (congrArg some (by kernel_rfl))
 f246 := Tryd.func124.trans (congrArg some (by kernel_rfl))
 f283 := Tryd.func125.trans (congrArg some (by kernel_rfl))
 f284 := Tryd.func126.trans (congrArg some (by kernel_rfl))
 f285 := Tryd.func127.trans (congrArg some (by kernel_rfl))
 f286 := Tryd.func128.trans (congrArg some (by kernel_rfl))
 f317 := Tryd.func129.trans (congrArg some (by kernel_rfl))
 f318 := Tryd.func131.trans (congrArg some (by kernel_rfl))
 f319 := Tryd.func132.trans (congrArg some (by kernel_rfl))
 f320 := Tryd.func133.trans (congrArg some (by kernel_rfl))
 f337 := Tryd.func134.trans (congrArg some (by kernel_rfl))
 f338 := Tryd.func135.trans (congrArg some (by kernel_rfl))
 t0 := Tryd.underlying0
 a0 := Tryd.isAgg0
 z0 := Tryd.sizeOf0
 v0 := Tryd.zeroValue0
 t2 := Tryd.underlying2
 a2 := Tryd.isAgg2
 z2 := Tryd.sizeOf2
 v2 := Tryd.zeroValue2
 t3 := Tryd.underlying3
 a3 := Tryd.isAgg3
 z3 := Tryd.sizeOf3
 v3 := Tryd.zeroValue3
 t4 := Tryd.underlying4
 a4 := Tryd.isAgg4
 z4 := Tryd.sizeOf4
 v4 := Tryd.zeroValue4
 t5 := Tryd.underlying5
 a5 := Tryd.isAgg5
 z5 := Tryd.sizeOf5
 v5 := Tryd.zeroValue5
 t9 := Tryd.underlying9
 a9 := Tryd.isAgg9
 z9 := Tryd.sizeOf9
 v9 := Tryd.zeroValue9
 t20 := Tryd.underlying20
 a20 := Tryd.isAgg20
 z20 := Tryd.sizeOf20
 v20 := Tryd.zeroValue20
 t37 := Tryd.underlying132
 a37 := Tryd.isAgg132
 z37 := Tryd.sizeOf132
 v37 := Tryd.zeroValue132
 t46 := Tryd.underlying125
 a46 := Tryd.isAgg125
 z46 := Tryd.sizeOf125
 v46 := Tryd.zeroValue125
 t51 := Tryd.underlying159
 a51 := Tryd.isAgg159
 z51 := Tryd.sizeOf159
 v51 := Tryd.zeroValue159
 t53 := Tryd.underlying152
 a53 := Tryd.isAgg152
 z53 := Tryd.sizeOf152
 v53 := Tryd.zeroValue152
 t171 := Tryd.underlying151
 a171 := Tryd.isAgg151
 z171 := Tryd.sizeOf151
 v171 := Tryd.zeroValue151
 t173 := Tryd.underlying155
 a173 := Tryd.isAgg155
 z173 := Tryd.sizeOf155
 v173 := Tryd.zeroValue155
 t212 := Tryd.underlying158
 a212 := Tryd.isAgg158
 z212 := Tryd.sizeOf158
 v212 := Tryd.zeroValue158
 t213 := Tryd.underlying160
 a213 := Tryd.isAgg160
 z213 := Tryd.sizeOf160
 t232 := Tryd.underlying163
 a232 := Tryd.isAgg163
 z232 := Tryd.sizeOf163
 v232 := Tryd.zeroValue163
 t233 := Tryd.underlying164
 a233 := Tryd.isAgg164
 z233 := Tryd.sizeOf164
 v233 := Tryd.zeroValue164
 g17 := by kernel_rfl
 g18 := by kernel_rfl
 g19 := by kernel_rfl
 i0 := by kernel_rfl
 i2 := by kernel_rfl
 i3 := by kernel_rfl
 i4 := by kernel_rfl
 i5 := by kernel_rfl
 i9 := by kernel_rfl
 i20 := by kernel_rfl
 i37 := by kernel_rfl
 i46 := by kernel_rfl
 i51 := by kernel_rfl
 i53 := by kernel_rfl
 i171 := by kernel_rfl
 i173 := by kernel_rfl
 i212 := by kernel_rfl
 i232 := by kernel_rfl
 i233 := by kernel_rfl
 m17 := by kernel_rfl
 m18 := by kernel_rfl
 m19 := by kernel_rfl }
open Go.RowKit Go.Sort Go.Lib in
/-- strconv.Itoa: "Itoa is equivalent to FormatInt(int64(i), 10).": i's DECIMAL NUMERAL ('Lib.itoa': a '-' where i is negative, then the digits), FOR EVERY int. The world behind the call: the world before it, new blocks behind the heap (the library's 'var a [24]byte'), draws. (LAID: no walk: one application.) -/
theorem Tryd.strconv_Itoa (n : Int) (h0 : -9223372036854775808 ≤ n) (h1 : n ≤ 9223372036854775807) (w : World) (htab : Lib.TabIs Tryd.prog w "internal/strconv.uint64pow10" .u64 Lib.pow10Tab) :
  Calls Tryd.prog 115 #[.int .i64 n] w fun e w' => e = .returned (.string ⟨(Lib.itoa n).toArray⟩) ∧ ∃ k os, w' = grow (w.drewN k) os := Any.strconv_Itoa Tryd.laysM171 n h0 h1 w htab
def Tryd.laysNm223_ren : Go.Shelf.Ren := ⟨fun | 23 => 74 | n => n, fun | 22 => 87 | 3 => 3 | 4 => 4 | 0 => 0 | n => n, fun | n => n⟩
theorem Tryd.laysNm223 : Go.Proofs.Lays2.n23 Tryd.prog Tryd.laysNm223_ren := {
 mixed := by kernel_rfl
 f23 := Tryd.func74.trans (congrArg some (by kernel_rfl))
 t0 := Tryd.underlying0
 a0 := Tryd.isAgg0
 z0 := Tryd.sizeOf0
 v0 := Tryd.zeroValue0
 t3 := Tryd.underlying3
 a3 := Tryd.isAgg3
 z3 := Tryd.sizeOf3
 v3 := Tryd.zeroValue3
 t4 := Tryd.underlying4
 a4 := Tryd.isAgg4
 z4 := Tryd.sizeOf4
 v4 := Tryd.zeroValue4
 t22 := Tryd.underlying87
 a22 := Tryd.isAgg87
 z22 := Tryd.sizeOf87
 v22 := Tryd.zeroValue87
 i3 := by kernel_rfl }
open Go.RowKit Go.Lib Go.Sort in
/-- slices.Delete at []int, of an argument, for i ≤ j ≤ n: the slice cut to n - (j - i) elements; the n cells hold what stood ahead of i, what stood from j on, then zeros. (LAID: no walk: one application.) -/
theorem Tryd.slices_Delete_int_cells (b off n c i j : Nat) (zs : List Int) (w : World) (hz : n ≤ zs.length) (hcap : n ≤ c) (hm : c ≤ 9223372036854775807) (hij : i ≤ j) (hj : j ≤ n) (hc : ∀ j, j < zs.length → w.cell? ⟨b, off + j, none⟩ = some (.int .i64 (zs.getD j 0))) (hf : ∀ j, j < n → w.frozen? ⟨b, off + j, none⟩ = false) :
  Calls Tryd.prog 74 #[.slice (some ⟨b, off, none⟩) n c, .int .i64 i, .int .i64 j] w fun e w' => e = .returned (.slice (some ⟨b, off, none⟩) (n - (j - i)) c) ∧ ∃ q, w' = (w.drewN q).setCells b off (((zs.take n).take i ++ (zs.take n).drop j ++ List.replicate (j - i) 0).map (Value.int .i64)) := Any.slices_Delete_int_cells Tryd.laysNm223 b off n c i j zs w hz hcap hm hij hj hc hf
def Tryd.laysSlE041_f101_ren : Go.Shelf.Ren := ⟨fun | 41 => 101 | n => n, fun | 22 => 22 | 23 => 4 | 4 => 4 | n => n, fun | n => n⟩
theorem Tryd.laysSlE041_f101 : Go.Proofs.SlLaysE0.n41 Tryd.prog Tryd.laysSlE041_f101_ren := {
 mixed := by kernel_rfl
 f41 := ⟨Tryd.f101.name, by decide, Tryd.func101.trans (congrArg some (by kernel_rfl))⟩
 t4 := Tryd.underlying4
 a4 := Tryd.isAgg4
 z4 := Tryd.sizeOf4
 v4 := Tryd.zeroValue4
 t22 := Tryd.underlying22
 a22 := Tryd.isAgg22
 z22 := Tryd.sizeOf22
 v22 := Tryd.zeroValue22 }
open Go.RowKit Go.Lib in
/-- slices.Clone: "Clone returns a copy of the slice. The elements are copied using assignment, so this is a shallow clone. The result may have additional unused capacity. The result preserves the nilness of s.": OF A SLICE THAT IS NOT nil IT RETURNS A SLICE THAT IS NOT nil, OF THE SAME CELLS, IN MEMORY OF THE CALL's OWN ('ownsRow': the how-to's 6f); below the heap's size at the call all is as it was. (LAID AT THE INSTANCE 'slices.Clone[[]bool,bool]': no walk: one application.) -/
theorem Tryd.slices_Clone (i0 : TypeInfo) (z : Value) (size bytes : Nat) (hi : Tryd.prog.info? 4 = some i0) (hz0 : i0.zero = some z) (hz1 : i0.size = size) (hz2 : i0.bytes = bytes) (hzs : z.cells.size = size) (hsz : 0 < size) (z23 : ∀ w, (Go.sizeOf 4).run Tryd.prog w = .ok size w) (b off n c : Nat) (news : List Value) (w : World) (hl : news.length = n * size) (hn : n ≤ maxLen) (hbig : n * bytes ≤ 140737488355328) (hc : ∀ j u, news[j]? = some u → w.cell? ⟨b, off + j, none⟩ = some u) (h1 : ∀ u ∈ news, u.oneCell' = true) :
  Calls Tryd.prog 101 #[.slice (some ⟨b, off, none⟩) n c] w fun e w' => ∃ v', e = .returned v' ∧ w'.ownsRow w.heap.size 4 size v' n news ∧ v' ≠ .slice none 0 0 ∧ Below w.heap.size w w' := AnyE.slices_Clone Tryd.laysSlE041_f101 i0 z size bytes hi hz0 hz1 hz2 hzs hsz z23 b off n c news w hl hn hbig hc h1
open Go.RowKit Go.Lib in
theorem Tryd.cloneB (i0 : TypeInfo) (z : Value) (size bytes : Nat) (hi : Tryd.prog.info? 4 = some i0) (hz0 : i0.zero = some z) (hz1 : i0.size = size) (hz2 : i0.bytes = bytes) (hzs : z.cells.size = size) (hsz : 0 < size) (z23 : ∀ w, (Go.sizeOf 4).run Tryd.prog w = .ok size w) (b off n c : Nat) (news : List Value) (w : World) (hl : news.length = n * size) (hn : n ≤ maxLen) (hbig : n * bytes ≤ 140737488355328) (hc : ∀ j u, news[j]? = some u → w.cell? ⟨b, off + j, none⟩ = some u) (h1 : ∀ u ∈ news, u.oneCell' = true) :
  Calls Tryd.prog 101 #[.slice (some ⟨b, off, none⟩) n c] w fun e w' => ∃ v', e = .returned v' ∧ w'.ownsRow w.heap.size 4 size v' n news ∧ v' ≠ .slice none 0 0 ∧ Below w.heap.size w w' := AnyE.slices_Clone Tryd.laysSlE041_f101 i0 z size bytes hi hz0 hz1 hz2 hzs hsz z23 b off n c news w hl hn hbig hc h1
end Go.Proofs
namespace Go.Proofs.YtnjdkhnepmmfgaaDoor.Mp
set_option linter.unusedVariables false
set_option linter.unusedSimpArgs false
open Go Go.Maps Go.ChangeMaps Go.MapKept
/-- An element stands for itself. -/
def hd (v : Value) : Option (DataW Value × List MemPlace) := some (.held v, [])
/-- Block b is a map that holds just the entries es. -/
def FMap (P : Program) (kt : TypeId) (w : World) (b : Nat) (es : List (Value × Value)) : Prop :=
 ∃ D : DataW Value, w.ownsMap P kt hd b es.length D ∧ Maps.size D = es.length ∧ (∀ p ∈ es, ∃ kl, keyOf P kt p.1 = some kl ∧ Maps.has D kl = true ∧ ∀ z, D.atKey kl z = .held p.2) ∧
  (∀ k kl, keyOf P kt k = some kl → (∀ p ∈ es, p.1 ≠ k) → Maps.has D kl = false)
section
variable {P : Program} {kt : TypeId} {w w' : World} {b : Nat} {es : List (Value × Value)}
theorem FMap.of_empty (hb : w.heap[b]? = some (.map #[] 0)) : FMap P kt w b [] :=
 ⟨.map [], ⟨#[], 0, hb, ⟨by simp, stamped_empty 0, by simp⟩, Nat.le_refl _, rfl⟩, rfl, fun p hp => by simp at hp, fun k kl _ _ => rfl⟩
theorem FMap.lt (h : FMap P kt w b es) : b < w.heap.size := by obtain ⟨D, h, _⟩ := h; exact h.lt
theorem FMap.kept {row : Option Nat} (h : FMap P kt w b es) (hg : w.grownBy w' row) (hne : some b ≠ row) : FMap P kt w' b es := by
 obtain ⟨D, h, r⟩ := h
 exact ⟨D, h.kept hg hne, r⟩
theorem FMap.move (h : FMap P kt w b es) (hb : w'.heap[b]? = w.heap[b]?) : FMap P kt w' b es := by
 obtain ⟨D, ⟨xs, c, h1, h2⟩, r⟩ := h
 exact ⟨D, ⟨xs, c, hb.trans h1, h2⟩, r⟩
theorem FMap.obj (h : FMap P kt w b es) : ∃ xs c, w.heap[b]? = some (.map xs c) := by
 obtain ⟨D, ⟨xs, c, h1, h2⟩, r⟩ := h
 exact ⟨xs, c, h1⟩
theorem FMap.look_some (h : FMap P kt w b es) (K : Keyed P kt) {t e : TypeId} (ht : P.underlying t = some (.map kt e)) {z : Value} (hz : (zeroValue e).run P w = .ok z w) {k v : Value} (hm : (k, v) ∈ es) :
  (Instr.lookup t (.map (some b)) k true).run P w = .ok (.tuple #[v, .bool true]) w ∧ (Instr.lookup t (.map (some b)) k false).run P w = .ok v w := by
 obtain ⟨D, h1, h2, h3, h4⟩ := h
 obtain ⟨kl, hk, hh, ha⟩ := h3 _ hm
 obtain ⟨v', ps, hr, hv⟩ := h1.look_ok K ht hz (zd := .held z) (zp := []) rfl hk
 obtain ⟨v2, ps2, hr2, hv2⟩ := h1.lookup K ht hz (zd := .held z) (zp := []) rfl hk
 rw [ha] at hv hv2
 simp only [hd, Option.some.injEq, Prod.mk.injEq, DataW.held.injEq] at hv hv2
 rw [hr, hr2, hv.1, hv2.1, hh]
 exact ⟨rfl, rfl⟩
theorem FMap.look_none (h : FMap P kt w b es) (K : Keyed P kt) {t e : TypeId} (ht : P.underlying t = some (.map kt e)) {z : Value} (hz : (zeroValue e).run P w = .ok z w) {k : Value} {kl : Lit} (hk : keyOf P kt k = some kl) (hm : ∀ p ∈ es, p.1 ≠ k) :
  (Instr.lookup t (.map (some b)) k true).run P w = .ok (.tuple #[z, .bool false]) w ∧ (Instr.lookup t (.map (some b)) k false).run P w = .ok z w := by
 obtain ⟨D, h1, h2, h3, h4⟩ := h
 have hh := h4 k kl hk hm
 obtain ⟨v', ps, hr, hv⟩ := h1.look_ok K ht hz (zd := .held z) (zp := []) rfl hk
 obtain ⟨v2, ps2, hr2, hv2⟩ := h1.lookup K ht hz (zd := .held z) (zp := []) rfl hk
 rw [atKey_of_not_has hh] at hv hv2
 simp only [hd, Option.some.injEq, Prod.mk.injEq, DataW.held.injEq] at hv hv2
 rw [hr, hr2, hv.1, hv2.1, hh]
 exact ⟨rfl, rfl⟩
theorem FMap.len (h : FMap P kt w b es) {t e : TypeId} (ht : P.underlying t = some (.map kt e)) (ty : TypeId) : (Builtin.len_ #[t] ty #[.map (some b)]).run P w = .ok (.int .i64 (es.length : Int)) w := by
 obtain ⟨D, h1, h2, _⟩ := h
 rw [h1.len ht ty, h2]
theorem FMap.store (h : FMap P kt w b es) (K : Keyed P kt) {t e : TypeId} (ht : P.underlying t = some (.map kt e)) (hn : es.length < maxLen) {k v : Value} {kl : Lit} (hk : keyOf P kt k = some kl) (hm : ∀ p ∈ es, p.1 ≠ k) :
  ∃ w', (Instr.mapUpdate t (.map (some b)) k v).run P w = .ok () w' ∧ FMap P kt w' b (es ++ [(k, v)]) ∧ w.grownBy w' (some b) := by
 obtain ⟨D, h1, h2, h3, h4⟩ := h
 obtain ⟨w', hr, ho, hg⟩ := h1.update K ht hn hk (val := v) (d := .held v) (ps := []) rfl
 have ht' := h1.tidy K
 have hh := h4 k kl hk hm
 have hkl := K.key hk
 refine ⟨w', hr, ⟨D.put kl (.held v), by rw [List.length_append]; exact ho, ?_, fun p hp => ?_, fun k' kl' hk' hm' => ?_⟩, hg⟩
 ·rw [size_put ht', hh, List.length_append, ← h2]; rfl
 ·rcases List.mem_append.1 hp with hp | hp
  ·obtain ⟨pl, hpl, hph, hpa⟩ := h3 p hp
   have hne : pl ≠ kl := fun e => hm p hp (K.inj hpl (by rw [e]; exact hk))
   exact ⟨pl, hpl, by rw [has_put_other hne]; exact hph, fun z => by rw [atKey_put_other hne]; exact hpa z⟩
  ·obtain rfl := List.mem_singleton.1 hp
   exact ⟨kl, hk, has_put_same ht'.isMap hkl _, fun z => atKey_put_same ht'.isMap hkl _ z⟩
 ·have hne : kl' ≠ kl := fun e => hm' (k, v) (List.mem_append_right _ (List.mem_singleton.2 rfl)) (K.inj hk (by rw [← e]; exact hk'))
  rw [has_put_other hne]
  exact h4 k' kl' hk' (fun p hp => hm' p (List.mem_append_left _ hp))
end
/-! ### at the operation -/
section
variable {P : Program} {kt : TypeId} {w : World} {b : Nat} {es : List (Value × Value)} {ops : Array Oper} {rest : List Oper} {o : Oper} {a : Act} {Q : Exit → Act → World → Prop}
/-- The operation is an entry of a map's literal. -/
theorem gate_insert {t : TypeId} {m x y : Operand} (_ho : o.op = Op.insert t m x y) (h : wpList P ops Q (o :: rest) a w) : wpList P ops Q (o :: rest) a w := h
theorem at_hit (h : FMap P kt w b es) (K : Keyed P kt) (hg : o.guard = none) (m x : Operand) (t e : TypeId) (hop : o.op = Op.lookup t m x true) (ht : P.underlying t = some (.map kt e)) {z : Value} (hz : (zeroValue e).run P w = .ok z w)
  (hm : a.eval m = .map (some b)) (k v : Value) (hx : a.eval x = k) (hmem : (k, v) ∈ es) (hK : wpList P ops Q rest (a.put o.dst (.tuple #[v, .bool true])) w) : wpList P ops Q (o :: rest) a w := by
 refine wpList_plain hg fun K' hK' => ?_
 unfold Oper.wp
 simp [execOp, hop, hm, hx, (h.look_some K ht hz hmem).1, Result.andThen]
 exact hK' _ _ hK
theorem at_miss (h : FMap P kt w b es) (K : Keyed P kt) (hg : o.guard = none) (m x : Operand) (t e : TypeId) (hop : o.op = Op.lookup t m x true) (ht : P.underlying t = some (.map kt e)) {z : Value} (hz : (zeroValue e).run P w = .ok z w)
  (hm : a.eval m = .map (some b)) (k : Value) {kl : Lit} (hk : keyOf P kt k = some kl) (hx : a.eval x = k) (hmem : ∀ p ∈ es, p.1 ≠ k) (hK : wpList P ops Q rest (a.put o.dst (.tuple #[z, .bool false])) w) : wpList P ops Q (o :: rest) a w := by
 refine wpList_plain hg fun K' hK' => ?_
 unfold Oper.wp
 simp [execOp, hop, hm, hx, (h.look_none K ht hz hk hmem).1, Result.andThen]
 exact hK' _ _ hK
theorem at_put (h : FMap P kt w b es) (K : Keyed P kt) (hg : o.guard = none) (m x y : Operand) (t e : TypeId) (hop : o.op = Op.mapUpdate t m x y ∨ o.op = Op.insert t m x y) (ht : P.underlying t = some (.map kt e)) (hn : es.length < maxLen)
  (hm : a.eval m = .map (some b)) (k v : Value) {kl : Lit} (hk : keyOf P kt k = some kl) (hx : a.eval x = k) (hy : a.eval y = v) (hmem : ∀ p ∈ es, p.1 ≠ k)
  (hK : ∀ w', FMap P kt w' b (es ++ [(k, v)]) → w.grownBy w' (some b) → wpList P ops Q rest (a.put o.dst undef) w') : wpList P ops Q (o :: rest) a w := by
 refine wpList_plain hg fun K' hK' => ?_
 obtain ⟨w', hrun, r1, r2⟩ := h.store K ht hn (v := v) hk hmem
 unfold Oper.wp
 rcases hop with hop | hop <;>
 ·simp [execOp, hop, hm, hx, hy, hrun, Result.andThen]
  exact hK' _ _ (hK w' r1 r2)
theorem at_size (h : FMap P kt w b es) (hg : o.guard = none) (m : Operand) (t e : TypeId) (hop : o.op = Op.call { callee := Callee.builtin Builtin.len, args := #[m], argTypes := #[t] }) (ht : P.underlying t = some (.map kt e)) (hm : a.eval m = .map (some b))
  (hK : wpList P ops Q rest (a.put o.dst (.int .i64 (es.length : Int))) w) : wpList P ops Q (o :: rest) a w := by
 refine wpList_plain hg fun K' hK' => ?_
 unfold Oper.wp
 simp [execOp, hop, resolve, invoke, builtin, hm, h.len ht o.type, Result.andThen]
 exact hK' _ _ hK
end
end Go.Proofs.YtnjdkhnepmmfgaaDoor.Mp
namespace Go.Proofs.YtnjdkhnepmmfgaaDoor.Kp
set_option linter.unusedVariables false
set_option linter.unusedSimpArgs false
open Go Go.RowKit Go.Proofs.YtnjdkhnepmmfgaaDoorW.PrintWords Mp
/-- W' is W but for block x and what is new. -/
structure Keep (W W' : World) (x : Option Nat) : Prop where
 size : W.heap.size ≤ W'.heap.size
 blk : ∀ k, k < W.heap.size → some k ≠ x → W'.heap[k]? = W.heap[k]?
theorem blk_at (W : World) (o : Obj) (g : Nat) (h : g = W.heap.size) : (W.alloc o).heap[g]? = some o := by subst h; exact blk_new W o
theorem Keep.below {W W' : World} (h : Below W.heap.size W W') : Keep W W' none := ⟨h.size, fun k hk _ => h.block k hk⟩
theorem Keep.grown {W W' : World} {x : Option Nat} (h : W.grownBy W' x) : Keep W W' x := ⟨h.size, fun k hk hx => h.block k hk hx⟩
theorem Keep.set (W : World) (p : Addr) (u : Value) : Keep W (W.setCell p u) (some p.block) := ⟨by simp [World.setCell], fun k _ hx => Below.heap_setCell W p u k (fun e => hx (by rw [e]))⟩
theorem Keep.obj {W W' : World} {x : Option Nat} (h : Keep W W' x) {g : Nat} {o : Obj} (hb : W.heap[g]? = some o) (hx : some g ≠ x) : W'.heap[g]? = some o := (h.blk g (blk_lt hb) hx).trans hb
/-- Block x is no row of a type in E. -/
def Off (W : World) (x : Option Nat) (E : List Nat) : Prop := ∀ g, x = some g → ∀ cells q, q ∈ E → W.heap[g]? ≠ some (.cells cells q (0, 0))
theorem Off.none (W : World) (E : List Nat) : Off W none E := fun g h => by cases h
theorem Off.cells {W : World} {g t : Nat} {c : Array Value} {E : List Nat} (hb : W.heap[g]? = some (.cells c t (0, 0))) (ht : ∀ q ∈ E, q ≠ t) : Off W (some g) E := by
 intro g' h cells q hq hc
 obtain rfl := Option.some.inj h
 rw [hb] at hc
 injection hc with hc
 injection hc with _ hc
 exact ht q hq hc.symm
theorem Off.map {W : World} {P : Program} {kt b : Nat} {es : List (Value × Value)} (h : FMap P kt W b es) (E : List Nat) : Off W (some b) E := by
 intro g' h' cells q _ hc
 obtain rfl := Option.some.inj h'
 obtain ⟨xs, c, ho⟩ := h.obj
 rw [ho] at hc
 injection hc with hc
 cases hc
section
variable {α β : Type} {d : Kd α} {d' : Kd β} {e e' : Nat} {W W' : World} {base b' : Nat} {ok ok' : Nat → Prop} {v v' : Value} {xs : List α} {ys : List β} {x : Option Nat}
theorem Off.row (h : d.R e W base ok v xs) {E : List Nat} (ht : ∀ q ∈ E, q ≠ e) : Off W v.ownBlock E := by
 obtain ⟨inner, ho⟩ := Kd.R_own h
 intro g hg cells q hq hc
 obtain ⟨cells', hc'⟩ := own_typed ho g hg
 rw [hc'] at hc
 injection hc with hc
 injection hc with _ hc
 exact ht q hq hc.symm
theorem R_off (h : d.R e W base ok v xs) (hk : Keep W W' x) (ho : Off W x (e :: d.E)) : d.R e W' base ok v xs :=
 Kd.R_mono (Kd.R_move (Kd.R_bound h) (fun k hk' => hk.blk k hk'.2.2.1 (fun he => by
  obtain ⟨_, _, _, q, hq, cells, hc⟩ := hk'
  exact ho k he.symm cells q hq hc))) (fun _ hk => hk.1)
/-- .. what is apart from block x. -/
theorem R_apart (h : d.R e W base (fun k => ok k ∧ some k ≠ x) v xs) (hk : Keep W W' x) : d.R e W' base (fun k => ok k ∧ some k ≠ x) v xs :=
 Kd.R_step h (fun k hk' hlt => hk.blk k hlt hk'.2)
/-- Apart by types. -/
theorem R_typed (h : d.R e W base ok v xs) (hv : d'.R e' W b' ok' v' ys) (ht : ∀ q, q ∈ e :: d.E → q ≠ e') : d.R e W base (fun k => ok k ∧ some k ≠ v'.ownBlock) v xs :=
 Kd.R_mono (Kd.R_bound h) (fun k hk => ⟨hk.1, fun he => by
  obtain ⟨_, _, _, q, hq, cells, hc⟩ := hk
  obtain ⟨inner, ho⟩ := Kd.R_own hv
  obtain ⟨cells', hc'⟩ := own_typed ho k he.symm
  rw [hc] at hc'
  injection hc' with hc'
  injection hc' with _ hc'
  exact ht q hq hc'⟩)
/-- A literal of one element. -/
theorem R_one (d : Kd α) (e : Nat) (W : World) (base : Nat) (hb : base ≤ W.heap.size) {y : α} {cs : List Value} {okp ok : Nat → Prop} (hM : d.M W base okp y cs) (hok : ∀ k, okp k → ok k) (hf : ok W.heap.size) :
  d.R e (W.alloc (.cells cs.toArray e)) base ok (.slice (some ⟨W.heap.size, 0, none⟩) 1 1) [y] := by
 have hl : cs.length = d.sz := d.K_len (d.K_of_M hM)
 refine ⟨fun k hk => ?_, cs, ?_, ?_⟩
 ·have : W.heap.size = k := by simpa [Value.ownBlock] using hk
  rw [← this]; exact hf
 ·have := World.ownsRow_lit (base := base) (e := e) (size := d.sz) W cs.toArray 1 hb (by simp [maxLen]) (by simpa using hl)
  simpa using this
 ·have h1 := d.M_mono (ok' := fun k => ok k ∧ some k ≠ (Value.slice (some ⟨W.heap.size, 0, none⟩) 1 1).ownBlock) (fun k hk => ⟨hok k hk.1, fun he => by
   have h3 : k = W.heap.size := by simpa [Value.ownBlock] using he
   have := hk.2.2.1
   omega⟩) (Kd.M_below (d.M_bound hM) (below_alloc (Below.refl _ _) (.cells cs.toArray e)))
  have := (Reps.none (d.M (W.alloc (.cells cs.toArray e)) base (fun k => ok k ∧ some k ≠ (Value.slice (some ⟨W.heap.size, 0, none⟩) 1 1).ownBlock)) d.sz).snoc h1 hl
  exact this
theorem off_ne {g t : Nat} {c : Array Value} (hb : W.heap[g]? = some (.cells c t (0, 0))) (ho : Off W x [t]) : some g ≠ x := fun e => ho g e.symm c t (by simp) hb
theorem map_ne {P : Program} {kt b g t : Nat} {c : Array Value} {es : List (Value × Value)} (h : FMap P kt W b es) (hb : W.heap[g]? = some (.cells c t (0, 0))) : b ≠ g := by
 rintro rfl
 obtain ⟨xs, c, ho⟩ := h.obj
 rw [ho] at hb
 injection hb with hb
 cases hb
theorem map_row_ne {P : Program} {kt b : Nat} {es : List (Value × Value)} (h : FMap P kt W b es) (hr : d.R e W base ok v xs) : some b ≠ v.ownBlock := by
 obtain ⟨inner, ho⟩ := Kd.R_own hr
 intro he
 obtain ⟨cells, hc⟩ := own_typed ho b he.symm
 exact map_ne h hc rfl
theorem map_keep {P : Program} {kt b : Nat} {es : List (Value × Value)} (h : FMap P kt W b es) (hk : Keep W W' x) (hx : some b ≠ x) : FMap P kt W' b es := h.move (hk.blk b h.lt hx)
end
/-- An element of a row of rows; of a row of numbers, of marks. -/
theorem at_row {α : Type} {d : Kd α} {e : Nat} {w : World} {A : Option Addr} {n : Nat} {xs : List (List α)} (h : (Kd.slice e d).C w A n xs) (i : Nat) (h1 : i < xs.length) : ∃ ad, A = some ad ∧ ∃ A' c', w.cell? (ad.add i) = some (.slice A' xs[i].length c') ∧ xs[i].length ≤ c' ∧ d.C w A' xs[i].length xs[i] := by
 obtain ⟨ad, c, e1, _, hK, hc0⟩ := Kd.C_get h [] (i : Int) (by omega) (by have := h.1; omega)
 rw [Int.toNat_natCast] at hK hc0
 have hx : xs.getD i [] = xs[i] := by simp [List.getD, List.getElem?_eq_getElem h1]
 rw [hx] at hK
 obtain ⟨A', c', rfl, hl, hr⟩ := hK
 have hs : (Kd.slice e d).sz = 1 := rfl
 rw [hs] at hc0
 exact ⟨ad, e1, A', c', by simpa using hc0 0 _ rfl, hl, hr⟩
theorem at_num {w : World} {A : Option Addr} {n : Nat} {xs : List Int} (h : (Kd.int .i64).C w A n xs) (i : Nat) (h1 : i < xs.length) : ∃ ad, A = some ad ∧ w.cell? (ad.add i) = some (.int .i64 xs[i]) := by
 obtain ⟨ad, e, hc⟩ := Kd.at_int h (i : Int) (by omega) (by have := h.1; omega)
 refine ⟨ad, e, ?_⟩
 rw [Int.toNat_natCast] at hc
 rw [hc]
 simp [rd, List.getD, List.getElem?_eq_getElem h1]
theorem at_mark {w : World} {A : Option Addr} {n : Nat} {xs : List Bool} (h : Kd.bool.C w A n xs) (i : Nat) (h1 : i < xs.length) : ∃ ad, A = some ad ∧ w.cell? (ad.add i) = some (.bool xs[i]) := by
 obtain ⟨ad, e, hc⟩ := Kd.at_bool h (i : Int) (by omega) (by have := h.1; omega)
 refine ⟨ad, e, ?_⟩
 rw [Int.toNat_natCast] at hc
 rw [hc]
 simp [rdOf, List.getD, List.getElem?_eq_getElem h1]
/-- Kd.R_append, the appended value's box being spelled otherwise. -/
theorem R_append' {P : Program} {ops : Array Oper} {rest : List Oper} {o : Oper} {a : Act} {Q : Exit → Act → World → Prop} {α : Type} (d : Kd α) {w0 W : World} (base : Nat) (hgd : o.guard = none) (s x : Operand) (t e : TypeId) (z : Value) (bytes : Nat)
  (ho : o.op = .call { callee := .builtin .append, args := #[s, x], argTypes := #[t, t] })
  (ht : P.underlying t = some (.slice e)) (hinfo : (P.info? e).map (fun i => (i.zero, i.size, i.bytes)) = some (some z, d.sz, bytes)) (hz : z.cells.size = d.sz) (hs0 : 0 < d.sz) (hb0 : 0 < bytes)
  (v : Value) (xs : List α) (p : α) (cs : List Value) (ok okp : Nat → Prop) (b : Nat) (hbs : b = W.heap.size) (hs : a.eval s = v) (hx : a.eval x = .slice (some ⟨b, 0, none⟩) 1 1) (hp : d.M W base okp p cs) (hokp : ∀ k, okp k → ok k ∧ some k ≠ v.ownBlock) (hfresh : ∀ k, W.heap.size ≤ k → ok k)
  (HO : d.R e W base ok v xs) (HB : Below base w0 W) (hbase : base ≤ W.heap.size) (hl : (xs.length + 1) * bytes ≤ 140737488355328)
  (h : ∀ v1 w1, d.R e w1 base ok v1 (xs ++ [p]) → Below base w0 w1 → W.grownBy w1 v.ownBlock → (v1.ownBlock = v.ownBlock ∨ ∃ b, v1.ownBlock = some b ∧ W.heap.size ≤ b) → wpList P ops Q rest (a.put o.dst v1) w1) :
  wpList P ops Q (o :: rest) a (W.alloc (.cells cs.toArray e)) := by
 subst hbs
 exact Kd.R_append d base hgd s x t e z bytes ho ht hinfo hz hs0 hb0 v xs p cs ok okp hs hx hp hokp hfresh HO HB hbase hl h
end Go.Proofs.YtnjdkhnepmmfgaaDoor.Kp
namespace Go.Proofs.YtnjdkhnepmmfgaaDoor.Fv
set_option linter.unusedVariables false
set_option linter.unusedSimpArgs false
open Go Go.RowKit Go.Proofs.YtnjdkhnepmmfgaaDoorW.PrintWords Go.Proofs.YtnjdkhnepmmfgaaDoorW.PrintLast
section
variable {P : Program} {ops : Array Oper} {Q : Exit → Act → World → Prop}
theorem value_run {oi : Oper} {a : Act} {w : World} {f : FuncId} {fn : Func} {t : Tmp} {cap : Array Value} {ars : Array Operand} {ts : Array TypeId} (hf : P.funcs[f]? = some fn) (hname : (fn.name == "runtime.NumGoroutine") = false) (hb : fn.body.isSome = true) (args : Array Value)
  (hop : oi.op = .call { callee := .value (.tmp t), args := ars, argTypes := ts }) (hv : a.eval (.tmp t) = .func (.func f) #[] cap) (hargs : ars.map a.eval = args) : (execOp a.eval oi).run P w = .ok (.enter f (args ++ cap)) w := by
 have he := enters_ hf hname hb (args ++ cap) w
 unfold execOp
 simp [hop, resolve, hv, Deferred.ofValue, invoke, hargs, he]
/-- A call of a function value, in a plain region. -/
theorem goesV_ {rest : List Oper} {oi : Oper} {a : Act} {w : World} (N : Option Tmp) (hd : oi.dst = N) (hg : oi.guard = none) {f : FuncId} {fn : Func} {t : Tmp} {cap : Array Value} {ars : Array Operand} {ts : Array TypeId} (hf : P.funcs[f]? = some fn) (hname : (fn.name == "runtime.NumGoroutine") = false) (hb : fn.body.isSome = true) (args : Array Value)
  (hop : oi.op = .call { callee := .value (.tmp t), args := ars, argTypes := ts }) (hv : a.eval (.tmp t) = .func (.func f) #[] cap) (hargs : ars.map a.eval = args)
  (h : Calls P f (args ++ cap) w fun e w' => ∃ v, e = .returned v ∧ wpList P ops Q rest (a.put N v) w') : wpList P ops Q (oi :: rest) a w := by
 refine wpList_plain hg fun K hK => ?_
 unfold Oper.wp
 rw [value_run hf hname hb args hop hv hargs, Oper.upon_enter]
 refine h.mono fun e w'' hh => ?_
 obtain ⟨v, rfl, hk⟩ := hh
 subst hd
 exact hK _ _ hk
/-- .. as one step of a region that draws. -/
theorem goesVs_ {oi : Oper} {N : Option Tmp} {a : Act} {w : World} {K : Act → World → Prop} {f : FuncId} {fn : Func} {t : Tmp} {cap : Array Value} {ars : Array Operand} {ts : Array TypeId} (hf : P.funcs[f]? = some fn) (hname : (fn.name == "runtime.NumGoroutine") = false) (hb : fn.body.isSome = true) (args : Array Value)
  (hw : Region.wanted oi (yielded ops a.tmps) = true) (hN : oi.dst = N) (hop : oi.op = .call { callee := .value (.tmp t), args := ars, argTypes := ts }) (hv : a.eval (.tmp t) = .func (.func f) #[] cap) (hargs : ars.map a.eval = args)
  (h : Calls P f (args ++ cap) w fun e w' => ∃ v, e = .returned v ∧ K (a.put N v) w') : if Region.wanted oi (yielded ops a.tmps) = true then Oper.wp P oi a w K Q else K (a.put N undef) w :=
 call_ f (args ++ cap) hw hN (value_run hf hname hb args hop hv hargs) h
end
/-- What a function value answers: for each world that has w's blocks; it only makes memory. -/
def Answers (P : Program) (w : World) (fv : Value) (args : Array Value) (r : Value) : Prop :=
 ∃ f fn cap, fv = .func (.func f) #[] cap ∧ P.funcs[f]? = some fn ∧ (fn.name == "runtime.NumGoroutine") = false ∧ fn.body.isSome = true ∧
  ∀ W, Below w.heap.size w W → Calls P f (args ++ cap) W fun e W' => e = .returned r ∧ Below W.heap.size W W'
end Go.Proofs.YtnjdkhnepmmfgaaDoor.Fv
namespace Go.Proofs.YtnjdkhnepmmfgaaDoor.Cl
set_option linter.unusedVariables false
set_option linter.unusedSimpArgs false
open Go.RowKit Go.Proofs.YtnjdkhnepmmfgaaDoorW.PrintWords Go.Proofs.YtnjdkhnepmmfgaaDoorW.PrintLast Go.Proofs.YtnjdkhnepmmfgaaDoorW.PrintMore Kp Fv
/-- A machine that lies in block g. -/
structure Mach (W : World) (g : Nat) (tapes start : Int) (accs : List Bool) (rows : List (List Int)) : Prop where
 lies : ∃ AA ca AN cn, W.heap[g]? = some (.cells #[.int .i64 tapes, .int .i64 start, .slice AA accs.length ca, .slice AN rows.length cn] 66 (0, 0)) ∧ Kd.C Kd.bool W AA accs.length accs ∧ Kd.C (Kd.slice 3 (Kd.int .i64)) W AN rows.length rows ∧ accs.length ≤ ca ∧ rows.length ≤ cn
/-- A variable in block g that holds numbers. -/
structure Nums (W : World) (g : Nat) (xs : List Int) : Prop where
 lies : ∃ A c, W.heap[g]? = some (.cells #[.slice A xs.length c] 87 (0, 0)) ∧ Kd.C (Kd.int .i64) W A xs.length xs ∧ xs.length ≤ c
theorem Mach.below {W W' : World} {g : Nat} {tapes start : Int} {accs : List Bool} {rows : List (List Int)} (h : Mach W g tapes start accs rows) (hb : Below W.heap.size W W') : Mach W' g tapes start accs rows := by
 obtain ⟨AA, ca, AN, cn, h1, h2, h3, h4, h5⟩ := h.lies
 exact ⟨AA, ca, AN, cn, blk_below h1 hb, Kd.C_below h2 hb, Kd.C_below h3 hb, h4, h5⟩
theorem Nums.below {W W' : World} {g : Nat} {xs : List Int} (h : Nums W g xs) (hb : Below W.heap.size W W') : Nums W' g xs := by
 obtain ⟨A, c, h1, h2, h3⟩ := h.lies
 exact ⟨A, c, blk_below h1 hb, Kd.C_below h2 hb, h3⟩
set_option maxHeartbeats 4000000 in
set_option maxRecDepth 100000 in
theorem m1 (g go : Nat) (tapes start : Int) (accs : List Bool) (rows : List (List Int)) (ones : List Int) (k o : Nat) (W : World) (hm : Mach W g tapes start accs rows) (hn : Nums W go ones) (hk : k < ones.length) (hok : ones[k] = (o : Int)) (ho : o < accs.length) :
  Calls Tryd.prog 117 #[.int .i64 (k : Int), .pointer (some ⟨g, 0, none⟩), .pointer (some ⟨go, 0, none⟩)] W fun e W' => e = .returned (.bool accs[o]) ∧ Below W.heap.size W W' := by
 obtain ⟨AA, ca, AN, cn, h1, h2, h3, h4, h5⟩ := hm.lies
 obtain ⟨A, c, j1, j2, j3⟩ := hn.lies
 have c2 : W.cell? ⟨g, 2, none⟩ = some (.slice AA accs.length ca) := (blk_cell h1 2).trans rfl
 have c0 : W.cell? ⟨go, 0, none⟩ = some (.slice A ones.length c) := (blk_cell j1 0).trans rfl
 obtain ⟨a1, rfl, k1⟩ := at_num j2 k hk
 rw [hok] at k1
 obtain ⟨a2, rfl, k2⟩ := at_mark h2 o ho
 have hl1 : ((k : Int) < (ones.length : Int)) = True := eq_true (by omega)
 have hl2 : ((o : Int) < (accs.length : Int)) = True := eq_true (by omega)
 have hp1 : (0 ≤ (k : Int)) = True := eq_true (by omega)
 have hp2 : (0 ≤ (o : Int)) = True := eq_true (by omega)
 have hB := Below.refl W.heap.size W
 clear hok h3 h4 h5 j3
 go_enter Tryd.func117, Tryd.ntmps117
 go_wp2
 go_quiet (fail)
 go_wp2
 go_ret
 exact ⟨rfl, by repeat (first | exact hB | apply pw_below_drewN | apply below_drew1)⟩
set_option maxHeartbeats 4000000 in
set_option maxRecDepth 100000 in
theorem m2 (gg g go : Nat) (tapes start : Int) (accs : List Bool) (rows : List (List Int)) (grp ones : List Int) (k o c q : Nat) (W : World) (hgr : Nums W gg grp) (hm : Mach W g tapes start accs rows) (hn : Nums W go ones) (hk : k < ones.length) (hok : ones[k] = (o : Int)) (ho : o < rows.length)
  (hc : c < rows[o].length) (hq : rows[o][c] = (q : Int)) (hqg : q < grp.length) :
  Calls Tryd.prog 118 #[.int .i64 (k : Int), .int .i64 (c : Int), .pointer (some ⟨gg, 0, none⟩), .pointer (some ⟨g, 0, none⟩), .pointer (some ⟨go, 0, none⟩)] W fun e W' => e = .returned (.int .i64 grp[q]) ∧ Below W.heap.size W W' := by
 obtain ⟨AA, ca, AN, cn, h1, h2, h3, h4, h5⟩ := hm.lies
 obtain ⟨A, cc, j1, j2, j3⟩ := hn.lies
 obtain ⟨B, cb, i1, i2, i3⟩ := hgr.lies
 have c3 : W.cell? ⟨g, 3, none⟩ = some (.slice AN rows.length cn) := (blk_cell h1 3).trans rfl
 have c0 : W.cell? ⟨go, 0, none⟩ = some (.slice A ones.length cc) := (blk_cell j1 0).trans rfl
 have d0 : W.cell? ⟨gg, 0, none⟩ = some (.slice B grp.length cb) := (blk_cell i1 0).trans rfl
 obtain ⟨a1, rfl, k1⟩ := at_num j2 k hk
 rw [hok] at k1
 obtain ⟨a2, rfl, A', c', k2, k3, k4⟩ := at_row h3 o ho
 obtain ⟨a3, rfl, k5⟩ := at_num k4 c hc
 rw [hq] at k5
 obtain ⟨a4, rfl, k6⟩ := at_num i2 q hqg
 have hl1 : ((k : Int) < (ones.length : Int)) = True := eq_true (by omega)
 have hl2 : ((o : Int) < (rows.length : Int)) = True := eq_true (by omega)
 have hl3 : ((c : Int) < (rows[o].length : Int)) = True := eq_true (by omega)
 have hl4 : ((q : Int) < (grp.length : Int)) = True := eq_true (by omega)
 have hp1 : (0 ≤ (k : Int)) = True := eq_true (by omega)
 have hp2 : (0 ≤ (o : Int)) = True := eq_true (by omega)
 have hp3 : (0 ≤ (c : Int)) = True := eq_true (by omega)
 have hp4 : (0 ≤ (q : Int)) = True := eq_true (by omega)
 have hB := Below.refl W.heap.size W
 clear hok hq h3 h4 h5 j3 i3 k3 k4
 generalize rows[o] = ro at *
 generalize grp[q] = gq at *
 go_enter Tryd.func118, Tryd.ntmps118
 go_wp2
 go_quiet (fail)
 go_wp2
 go_ret
 exact ⟨rfl, by repeat (first | exact hB | apply pw_below_drewN | apply below_drew1)⟩
set_option maxHeartbeats 4000000 in
set_option maxRecDepth 100000 in
theorem t1_dead (g : Nat) (s p : Int) (W : World) (hp : p < 0) :
  Calls Tryd.prog 107 #[.agg #[.int .i64 s, .int .i64 p], .pointer (some ⟨g, 0, none⟩)] W fun e W' => e = .returned (.bool false) ∧ Below W.heap.size W W' := by
 have hp1 : (0 ≤ p) = False := eq_false (by omega)
 have hp2 : decide (0 ≤ p) = false := decide_eq_false (by omega)
 have hB := Below.refl W.heap.size W
 go_enter Tryd.func107, Tryd.ntmps107
 go_wp2
 go_ret
 exact ⟨rfl, by repeat (first | exact hB | apply below_alloc | apply pw_below_drewN | apply below_drew1)⟩
set_option maxHeartbeats 4000000 in
set_option maxRecDepth 100000 in
theorem t1_live (g : Nat) (tapes start : Int) (accs : List Bool) (rows : List (List Int)) (s : Nat) (p : Int) (W : World) (hm : Mach W g tapes start accs rows) (hp : 0 ≤ p) (hs : s < accs.length) :
  Calls Tryd.prog 107 #[.agg #[.int .i64 (s : Int), .int .i64 p], .pointer (some ⟨g, 0, none⟩)] W fun e W' => e = .returned (.bool accs[s]) ∧ Below W.heap.size W W' := by
 have hm' := hm.below (below_alloc (Below.refl _ _) (.cells #[.int .i64 (s : Int), .int .i64 p] 129))
 obtain ⟨AA, ca, AN, cn, h1, h2, h3, h4, h5⟩ := hm'.lies
 have c2 : (W.alloc (.cells #[.int .i64 (s : Int), .int .i64 p] 129)).cell? ⟨g, 2, none⟩ = some (.slice AA accs.length ca) := (blk_cell h1 2).trans rfl
 obtain ⟨a2, rfl, k2⟩ := at_mark h2 s hs
 have hl1 : ((s : Int) < (accs.length : Int)) = True := eq_true (by omega)
 have hp0 : (0 ≤ (s : Int)) = True := eq_true (by omega)
 have hp1 : (0 ≤ p) = True := eq_true hp
 have hp2 : decide (0 ≤ p) = true := decide_eq_true hp
 have hB := Below.refl W.heap.size W
 clear h1 h2 h3 h4 h5 hm hm'
 go_enter Tryd.func107, Tryd.ntmps107
 go_wp2
 go_ret
 exact ⟨rfl, by repeat (first | exact hB | apply below_alloc | apply pw_below_drewN | apply below_drew1)⟩
set_option maxHeartbeats 4000000 in
set_option maxRecDepth 100000 in
theorem t2_dead (gp g : Nat) (s p c : Int) (W : World) (hp : p < 0) :
  Calls Tryd.prog 108 #[.agg #[.int .i64 s, .int .i64 p], .int .i64 c, .pointer (some ⟨gp, 0, none⟩), .pointer (some ⟨g, 0, none⟩)] W fun e W' => e = .returned (.agg #[.int .i64 0, .int .i64 (-1)]) ∧ Below W.heap.size W W' := by
 have hp1 : (p < 0) = True := eq_true hp
 have hp2 : decide (p < 0) = true := decide_eq_true hp
 have hB := Below.refl W.heap.size W
 go_enter Tryd.func108, Tryd.ntmps108
 go_wp2
 go_quiet (fail)
 go_wp2
 refine bodyPost_ret (results_cell_row rfl _ _ (W.heap.size + 1) 129 #[.int .i64 0, .int .i64 (-1)] (0, 0) _ rfl ?_ Tryd.underlying129 rfl (by kernel_rfl)) rfl ⟨rfl, ?_⟩
 ·exact blk_put (blk_put (blk_drewN (blk_at _ _ _ (by simp)) _) 0 _ rfl) 1 _ rfl
 ·exact below_set (below_set (pw_below_drewN (below_alloc (below_alloc hB _) _) _) (by omega)) (by omega)
set_option maxHeartbeats 4000000 in
set_option maxRecDepth 100000 in
theorem t2_off (gp g : Nat) (s p : Int) (pads : List Int) (c : Nat) (W : World) (hpd : Nums W gp pads) (hp : 0 ≤ p) (hc : c < pads.length) (hz : bits .andNot .i64 p pads[c] ≠ 0) :
  Calls Tryd.prog 108 #[.agg #[.int .i64 s, .int .i64 p], .int .i64 (c : Int), .pointer (some ⟨gp, 0, none⟩), .pointer (some ⟨g, 0, none⟩)] W fun e W' => e = .returned (.agg #[.int .i64 0, .int .i64 (-1)]) ∧ Below W.heap.size W W' := by
 have hB := Below.refl W.heap.size W
 obtain ⟨B, cb, i1, i2, i3⟩ := (hpd.below (below_alloc (below_alloc hB (.cells #[.int .i64 s, .int .i64 p] 129)) (.cells #[.int .i64 0, .int .i64 0] 129))).lies
 have d0 : ((W.alloc (.cells #[.int .i64 s, .int .i64 p] 129)).alloc (.cells #[.int .i64 0, .int .i64 0] 129)).cell? ⟨gp, 0, none⟩ = some (.slice B pads.length cb) := (blk_cell i1 0).trans rfl
 obtain ⟨a4, rfl, k6⟩ := at_num i2 c hc
 generalize pads[c] = q at *
 have hp1 : (p < 0) = False := eq_false (by omega)
 have hp2 : decide (p < 0) = false := decide_eq_false (by omega)
 have z1 : (bits .andNot .i64 p q != 0) = true := by simpa using hz
 have z2 : (bits .andNot .i64 p q = 0) = False := eq_false hz
 have hl1 : ((c : Int) < (pads.length : Int)) = True := eq_true (by omega)
 have hc0 : (0 ≤ (c : Int)) = True := eq_true (by omega)
 clear hpd i1 i2 i3 hz
 go_enter Tryd.func108, Tryd.ntmps108
 go_wp2
 go_quiet (fail)
 go_wp2
 refine bodyPost_ret (results_cell_row rfl _ _ (W.heap.size + 1) 129 #[.int .i64 0, .int .i64 (-1)] (0, 0) _ rfl ?_ Tryd.underlying129 rfl (by kernel_rfl)) rfl ⟨rfl, ?_⟩
 ·exact blk_put (blk_put (blk_drewN (blk_at _ _ _ (by simp)) _) 0 _ rfl) 1 _ rfl
 ·exact below_set (below_set (pw_below_drewN (below_alloc (below_alloc hB _) _) _) (by omega)) (by omega)
set_option maxHeartbeats 4000000 in
set_option maxRecDepth 100000 in
theorem t2_live (gp g : Nat) (tapes start : Int) (accs : List Bool) (rows : List (List Int)) (s : Nat) (p : Int) (pads : List Int) (c : Nat) (W : World) (hpd : Nums W gp pads) (hm : Mach W g tapes start accs rows) (hp : 0 ≤ p) (hs : s < rows.length) (hcr : c < rows[s].length) (hc : c < pads.length) (hz : bits .andNot .i64 p pads[c] = 0) :
  Calls Tryd.prog 108 #[.agg #[.int .i64 (s : Int), .int .i64 p], .int .i64 (c : Int), .pointer (some ⟨gp, 0, none⟩), .pointer (some ⟨g, 0, none⟩)] W fun e W' => e = .returned (.agg #[.int .i64 rows[s][c], .int .i64 pads[c]]) ∧ Below W.heap.size W W' := by
 have hB := Below.refl W.heap.size W
 obtain ⟨B, cb, i1, i2, i3⟩ := (hpd.below (below_alloc (below_alloc hB (.cells #[.int .i64 (s : Int), .int .i64 p] 129)) (.cells #[.int .i64 0, .int .i64 0] 129))).lies
 have d0 : ((W.alloc (.cells #[.int .i64 (s : Int), .int .i64 p] 129)).alloc (.cells #[.int .i64 0, .int .i64 0] 129)).cell? ⟨gp, 0, none⟩ = some (.slice B pads.length cb) := (blk_cell i1 0).trans rfl
 obtain ⟨a4, rfl, k6⟩ := at_num i2 c hc
 obtain ⟨AA, ca, AN, cn, h1, h2, h3, h4, h5⟩ := (hm.below (below_alloc (below_alloc hB (.cells #[.int .i64 (s : Int), .int .i64 p] 129)) (.cells #[.int .i64 0, .int .i64 0] 129))).lies
 have c3 : ((W.alloc (.cells #[.int .i64 (s : Int), .int .i64 p] 129)).alloc (.cells #[.int .i64 0, .int .i64 0] 129)).cell? ⟨g, 3, none⟩ = some (.slice AN rows.length cn) := (blk_cell h1 3).trans rfl
 obtain ⟨a2, rfl, A', c', k2, k3, k4⟩ := at_row h3 s hs
 obtain ⟨a3, rfl, k5⟩ := at_num k4 c hcr
 have hl2 : ((s : Int) < (rows.length : Int)) = True := eq_true (by omega)
 have hl3 : ((c : Int) < (rows[s].length : Int)) = True := eq_true (by omega)
 generalize rows[s][c] = y at *
 generalize rows[s] = ro at *
 generalize pads[c] = q at *
 have hp1 : (p < 0) = False := eq_false (by omega)
 have hp2 : decide (p < 0) = false := decide_eq_false (by omega)
 have hl1 : ((c : Int) < (pads.length : Int)) = True := eq_true (by omega)
 have hc0 : (0 ≤ (c : Int)) = True := eq_true (by omega)
 have hs0 : (0 ≤ (s : Int)) = True := eq_true (by omega)
 clear hpd i1 i2 i3 hm h1 h2 h3 h4 h5 k3 k4
 go_enter Tryd.func108, Tryd.ntmps108
 go_wp2
 go_quiet (fail)
 go_wp2
 have s00 : ((W.alloc (.cells #[.int .i64 (s : Int), .int .i64 p] 129)).alloc (.cells #[.int .i64 0, .int .i64 0] 129)).cell? ⟨W.heap.size, 0, none⟩ = some (.int .i64 (s : Int)) := (blk_cell (blk_alloc (blk_new _ _) _) 0).trans rfl
 refine start_ (n := 15) (S := fun w' => w'.cell? ⟨g, 3, none⟩ = some (.slice (some a2) rows.length cn) ∧ w'.cell? ⟨W.heap.size, 0, none⟩ = some (.int .i64 (s : Int)) ∧ w'.cell? (a2.add s) = some (.slice (some a3) ro.length c') ∧ w'.cell? (a3.add c) = some (.int .i64 y) ∧ w'.cell? ⟨gp, 0, none⟩ = some (.slice (some a4) pads.length cb) ∧ w'.cell? (a4.add c) = some (.int .i64 q)) (ds := [14]) (.replicate 15 false) (by kernel_rfl) rfl rfl (⟨c3, s00, k2, k5, d0, k6⟩) (fun hHeld => ?_)
 refine pure_ (i := 0) (N := some 21) (v := ?_) (a' := ?_) (zb 15 1) rfl rfl (by kernel_rfl) (fun _ _ _ h => h) (Or.inl ⟨by rfl, ?_⟩) ?_ ?_
 rotate_left
 ·intro w'
  go_simp
  with_reducible rfl
 rotate_left
 ·simp only [Act.put, Za, Zb, Zc, i64_w, i32_w]
  rfl
 refine pure_ (i := 2) (N := some 23) (v := ?_) (a' := ?_) (zb 15 5) rfl rfl (by kernel_rfl) (fun _ _ _ h => h) (Or.inl ⟨by rfl, ?_⟩) ?_ ?_
 rotate_left
 ·intro w'
  go_simp
  with_reducible rfl
 rotate_left
 ·simp only [Act.put, Za, Zb, Zc, i64_w, i32_w]
  rfl
 refine pure_ (i := 6) (N := some 27) (v := ?_) (a' := ?_) (zb 15 69) rfl rfl (by kernel_rfl) (fun _ _ _ h => h) (Or.inl ⟨by rfl, ?_⟩) ?_ ?_
 rotate_left
 ·intro w'
  go_simp
  with_reducible rfl
 rotate_left
 ·simp only [Act.put, Za, Zb, Zc, i64_w, i32_w]
  rfl
 refine pure_ (i := 10) (N := some 31) (v := ?_) (a' := ?_) (zb 15 1093) rfl rfl (by kernel_rfl) (fun _ _ _ h => h) (Or.inl ⟨by rfl, ?_⟩) ?_ ?_
 rotate_left
 ·intro w'
  go_simp
  with_reducible rfl
 rotate_left
 ·simp only [Act.put, Za, Zb, Zc, i64_w, i32_w]
  rfl
 refine take_ (i := 1) (N := some 22) (v := ?_) (a' := ?_) (zb 15 1095) rfl rfl (by kernel_rfl) (fun _ _ _ h => h) (Or.inl ⟨by rfl, ?_⟩) hHeld ?_ ?_
 rotate_left
 ·rintro w' ⟨s0, s1, s2, s3, s4, s5⟩
  go_simp
  with_reducible rfl
 rotate_left
 ·simp only [Act.put, Za, Zb, Zc, i64_w, i32_w]
  rfl
 refine take_ (i := 3) (N := some 24) (v := ?_) (a' := ?_) (zb 15 1103) rfl rfl (by kernel_rfl) (fun _ _ _ h => h) (Or.inl ⟨by rfl, ?_⟩) hHeld ?_ ?_
 rotate_left
 ·rintro w' ⟨s0, s1, s2, s3, s4, s5⟩
  go_simp
  with_reducible rfl
 rotate_left
 ·simp only [Act.put, Za, Zb, Zc, i64_w, i32_w]
  rfl
 refine pure_ (i := 4) (N := some 25) (v := ?_) (a' := ?_) (zb 15 1119) rfl rfl (by kernel_rfl) (fun _ _ _ h => h) (Or.inl ⟨by rfl, ?_⟩) ?_ ?_
 rotate_left
 ·intro w'
  go_simp
  with_reducible rfl
 rotate_left
 ·simp only [Act.put, Za, Zb, Zc, i64_w, i32_w]
  rfl
 refine take_ (i := 5) (N := some 26) (v := ?_) (a' := ?_) (zb 15 1151) rfl rfl (by kernel_rfl) (fun _ _ _ h => h) (Or.inl ⟨by rfl, ?_⟩) hHeld ?_ ?_
 rotate_left
 ·rintro w' ⟨s0, s1, s2, s3, s4, s5⟩
  go_simp
  with_reducible rfl
 rotate_left
 ·simp only [Act.put, Za, Zb, Zc, i64_w, i32_w]
  rfl
 refine pure_ (i := 7) (N := some 28) (v := ?_) (a' := ?_) (zb 15 1279) rfl rfl (by kernel_rfl) (fun _ _ _ h => h) (Or.inl ⟨by rfl, ?_⟩) ?_ ?_
 rotate_left
 ·intro w'
  go_simp
  with_reducible rfl
 rotate_left
 ·simp only [Act.put, Za, Zb, Zc, i64_w, i32_w]
  rfl
 refine take_ (i := 8) (N := some 29) (v := ?_) (a' := ?_) (zb 15 1535) rfl rfl (by kernel_rfl) (fun _ _ _ h => h) (Or.inl ⟨by rfl, ?_⟩) hHeld ?_ ?_
 rotate_left
 ·rintro w' ⟨s0, s1, s2, s3, s4, s5⟩
  go_simp
  with_reducible rfl
 rotate_left
 ·simp only [Act.put, Za, Zb, Zc, i64_w, i32_w]
  rfl
 refine take_ (i := 9) (N := some 30) (v := ?_) (a' := ?_) (zb 15 2047) rfl rfl (by kernel_rfl) (fun _ _ _ h => h) (Or.inl ⟨by rfl, ?_⟩) hHeld ?_ ?_
 rotate_left
 ·rintro w' ⟨s0, s1, s2, s3, s4, s5⟩
  go_simp
  with_reducible rfl
 rotate_left
 ·simp only [Act.put, Za, Zb, Zc, i64_w, i32_w]
  rfl
 refine pure_ (i := 11) (N := some 32) (v := ?_) (a' := ?_) (zb 15 4095) rfl rfl (by kernel_rfl) (fun _ _ _ h => h) (Or.inl ⟨by rfl, ?_⟩) ?_ ?_
 rotate_left
 ·intro w'
  go_simp
  with_reducible rfl
 rotate_left
 ·simp only [Act.put, Za, Zb, Zc, i64_w, i32_w]
  rfl
 refine take_ (i := 12) (N := some 33) (v := ?_) (a' := ?_) (zb 15 8191) rfl rfl (by kernel_rfl) (fun _ _ _ h => h) (Or.inl ⟨by rfl, ?_⟩) hHeld ?_ ?_
 rotate_left
 ·rintro w' ⟨s0, s1, s2, s3, s4, s5⟩
  go_simp
  with_reducible rfl
 rotate_left
 ·simp only [Act.put, Za, Zb, Zc, i64_w, i32_w]
  rfl
 refine pure_ (i := 13) (N := some 34) (v := ?_) (a' := ?_) (zb 15 16383) rfl rfl (by kernel_rfl) (fun _ _ _ h => h) (Or.inl ⟨by rfl, ?_⟩) ?_ ?_
 rotate_left
 ·intro w'
  go_simp
  with_reducible rfl
 rotate_left
 ·simp only [Act.put, Za, Zb, Zc, i64_w, i32_w]
  rfl
 refine last_ (i := 14) (N := none) (zb 15 32767) rfl rfl (by kernel_rfl) (by decide) (fun K hK => ?_)
 refine skip_ (w1 := ((((W.alloc (.cells #[.int .i64 (s : Int), .int .i64 p] 129)).alloc (.cells #[.int .i64 0, .int .i64 0] 129)).drewN nq).drew.setCell ⟨W.heap.size + 1, 0, none⟩ (.int .i64 y)).setCell ⟨W.heap.size + 1, 1, none⟩ (.int .i64 q)) (by rfl) rfl (by first | (go_simp; done) | (go_simp; rfl)) ?_
 refine hK.out _ _ ?_
 refine done_ (by kernel_rfl) ?_
 go_wp2
 refine bodyPost_ret (results_cell_row rfl _ _ (W.heap.size + 1) 129 #[.int .i64 y, .int .i64 q] (0, 0) _ rfl ?_ Tryd.underlying129 rfl (by kernel_rfl)) rfl ⟨rfl, ?_⟩
 ·exact blk_put (blk_put (blk_drew (blk_drewN (blk_at _ _ _ (by simp)) _)) 0 _ rfl) 1 _ rfl
 ·exact below_set (below_set (below_drew1 (pw_below_drewN (below_alloc (below_alloc hB _) _) _)) (by omega)) (by omega)
end Go.Proofs.YtnjdkhnepmmfgaaDoor.Cl
namespace Go.Proofs.YtnjdkhnepmmfgaaDoor.Ky
set_option linter.unusedVariables false
set_option linter.unusedSimpArgs false
open Go Go.Maps
theorem laid : laidOutB Tryd.prog = true := by kernel_rfl
theorem wf64 {a : Int} (h : -9223372036854775808 ≤ a ∧ a ≤ 9223372036854775807) : (Lit.int .i64 a).wf = true := by
 have : IntKind.min .i64 = -9223372036854775808 := rfl
 have h2 : IntKind.max .i64 = 9223372036854775807 := rfl
 simp only [Lit.wf, this, h2] <;> simp <;> omega
theorem int_law : Keyed Tryd.prog 3 := int_keyed Tryd.underlying3
theorem int_key {a : Int} (h : -9223372036854775808 ≤ a ∧ a ≤ 9223372036854775807) : keyOf Tryd.prog 3 (.int .i64 a) = some (.int .i64 a) := keyOf_int_mk Tryd.underlying3 (wf64 h)
theorem string_law : Keyed Tryd.prog 9 := string_keyed Tryd.underlying9
theorem string_key {s : ByteArray} (h : s.size ≤ maxLen) : keyOf Tryd.prog 9 (.string s) = some (.string s.data.toList) := WideMaps.keyOf_string_mk Tryd.underlying9 h
theorem place_law : Keyed Tryd.prog 129 := Keyed.of_law (deep_law_laid laid (m := 9) (by omega) (by decide +kernel) (by kernel_rfl) (by kernel_rfl))
theorem zero_int (w : World) : (zeroValue 3).run Tryd.prog w = .ok (.int .i64 0) w := by kernel_rfl
theorem place_key {a b : Int} (ha : -9223372036854775808 ≤ a ∧ a ≤ 9223372036854775807) (hb : -9223372036854775808 ≤ b ∧ b ≤ 9223372036854775807) :
  ∃ kl, keyOf Tryd.prog 129 (.agg #[.int .i64 a, .int .i64 b]) = some kl := by
 have h1 : Tryd.prog.keyType 129 = true := by kernel_rfl
 have h2 : Tryd.prog.cellsOf 129 = 2 := by kernel_rfl
 have h3 : ∃ m, Tryd.prog.types.size = m + 1 := ⟨Tryd.prog.types.size - 1, by decide +kernel⟩
 obtain ⟨m, hm⟩ := h3
 refine ⟨.string (keyBytes [.int .i64 a, .int .i64 b]), ?_⟩
 unfold keyOf
 simp only [Tryd.underlying129]
 rw [if_pos (by simp [h1, Value.formed, Tryd.underlying129, h2]), hm]
 unfold Program.keyLits
 simp only [Tryd.underlying129, Value.cells]
 have c3 : Tryd.prog.cellsOf 3 = 1 := by kernel_rfl
 simp [Program.keyLits, Tryd.underlying3, wf64 ha, wf64 hb, c3, h2]
end Go.Proofs.YtnjdkhnepmmfgaaDoor.Ky
namespace Go.Proofs.YtnjdkhnepmmfgaaDoor.Tdy
set_option linter.unusedVariables false
set_option linter.unusedSimpArgs false
/-- Two lists whose elements are related one by one. -/
def Two {σ τ : Type} (R : σ → τ → Prop) : List σ → List τ → Prop
 | [], [] => True
 | s :: l, t :: m => R s t ∧ Two R l m
 | _, _ => False
theorem Two.length {σ τ : Type} {R : σ → τ → Prop} : ∀ {l : List σ} {m : List τ}, Two R l m → l.length = m.length
 | [], [], _ => rfl
 | _ :: _, _ :: _, h => by simp [Two.length h.2]
theorem Two.snoc {σ τ : Type} {R : σ → τ → Prop} {s : σ} {t : τ} (hs : R s t) : ∀ {l : List σ} {m : List τ}, Two R l m → Two R (l ++ [s]) (m ++ [t])
 | [], [], _ => ⟨hs, trivial⟩
 | _ :: _, _ :: _, h => ⟨h.1, Two.snoc hs h.2⟩
theorem Two.get {σ τ : Type} {R : σ → τ → Prop} : ∀ {l : List σ} {m : List τ}, Two R l m → ∀ (i : Nat) (h1 : i < l.length) (h2 : i < m.length), R l[i] m[i]
 | _ :: _, _ :: _, h, 0, _, _ => h.1
 | _ :: _, _ :: _, h, i + 1, h1, h2 => Two.get h.2 i (by simpa using h1) (by simpa using h2)
theorem Two.map_eq {σ τ α : Type} {R : σ → τ → Prop} {f : σ → α} {g : τ → α} (h : ∀ s t, R s t → f s = g t) : ∀ {l : List σ} {m : List τ}, Two R l m → l.map f = m.map g
 | [], [], _ => rfl
 | _ :: _, _ :: _, hh => by simp [h _ _ hh.1, Two.map_eq h hh.2]
/-! ### numbering what is met -/
section
variable {σ κ : Type} [DecidableEq κ]
def find (key : σ → κ) (k : κ) : List σ → Option Nat
 | [] => none
 | s :: l => if key s = k then some 0 else (find key k l).map (· + 1)
def row (key : σ → κ) (nxt : σ → Nat → σ) (s : σ) : List Nat → List σ → List σ × List Nat
 | [], l => (l, [])
 | c :: cs, l =>
  match find key (key (nxt s c)) l with
  | some j => ((row key nxt s cs l).1, j :: (row key nxt s cs l).2)
  | none => ((row key nxt s cs (l ++ [nxt s c])).1, l.length :: (row key nxt s cs (l ++ [nxt s c])).2)
/-- 'none': more rounds are wanted; 'some none': more than the limit (0 for none) are met. -/
def bfs (key : σ → κ) (nxt : σ → Nat → σ) (cols : List Nat) (limit : Nat) : Nat → Nat → List σ → List (List Nat) → Option (Option (List σ × List (List Nat)))
 | 0, _, _, _ => none
 | f + 1, i, l, rows =>
  if h : i < l.length then
   if 0 < limit ∧ limit < (row key nxt l[i] cols l).1.length then some none
   else bfs key nxt cols limit f (i + 1) (row key nxt l[i] cols l).1 (rows ++ [(row key nxt l[i] cols l).2])
  else some (some (l, rows))
theorem find_some {key : σ → κ} {k : κ} : ∀ {l : List σ} {j : Nat}, find key k l = some j → ∃ h : j < l.length, key l[j] = k
 | [], _, h => by simp [find] at h
 | s :: l, j, h => by
  unfold find at h
  split at h
  ·rename_i e
   obtain rfl : 0 = j := by simpa using h
   exact ⟨by simp, e⟩
  ·obtain ⟨i, hi, rfl⟩ := Option.map_eq_some_iff.1 h
   obtain ⟨hl, e⟩ := find_some hi
   exact ⟨by simpa using hl, by simpa using e⟩
theorem find_none {key : σ → κ} {k : κ} : ∀ {l : List σ}, find key k l = none → ∀ s ∈ l, key s ≠ k
 | [], _, s, hs => by simp at hs
 | s :: l, h, t, ht => by
  unfold find at h
  split at h
  ·simp at h
  ·rename_i e
   rcases List.mem_cons.1 ht with rfl | ht
   ·exact e
   ·exact find_none (by simpa using h) t ht
theorem row_some {key : σ → κ} {nxt : σ → Nat → σ} {s : σ} {c : Nat} {cs : List Nat} {l : List σ} {j : Nat} (h : find key (key (nxt s c)) l = some j) : row key nxt s (c :: cs) l = ((row key nxt s cs l).1, j :: (row key nxt s cs l).2) := by
 rw [row, h]
theorem row_none {key : σ → κ} {nxt : σ → Nat → σ} {s : σ} {c : Nat} {cs : List Nat} {l : List σ} (h : find key (key (nxt s c)) l = none) : row key nxt s (c :: cs) l = ((row key nxt s cs (l ++ [nxt s c])).1, l.length :: (row key nxt s cs (l ++ [nxt s c])).2) := by
 rw [row, h]
theorem row_prefix {key : σ → κ} {nxt : σ → Nat → σ} {s : σ} : ∀ (cs : List Nat) (l : List σ), ∃ m, (row key nxt s cs l).1 = l ++ m
 | [], l => ⟨[], by simp [row]⟩
 | c :: cs, l => by
  unfold row
  split
  ·exact row_prefix cs l
  ·obtain ⟨m, hm⟩ := row_prefix (key := key) (nxt := nxt) (s := s) cs (l ++ [nxt s c])
   exact ⟨nxt s c :: m, by rw [hm]; simp⟩
theorem row_length {key : σ → κ} {nxt : σ → Nat → σ} {s : σ} : ∀ (cs : List Nat) (l : List σ), (row key nxt s cs l).2.length = cs.length
 | [], l => by simp [row]
 | c :: cs, l => by
  unfold row
  split <;> simp [row_length cs]
/-- no two have the same key -/
def Apart (key : σ → κ) (l : List σ) : Prop := l.Pairwise (fun s t => key s ≠ key t)
omit [DecidableEq κ] in
theorem Apart.snoc {key : σ → κ} {l : List σ} {x : σ} (h : Apart key l) (hx : ∀ s ∈ l, key s ≠ key x) : Apart key (l ++ [x]) := by
 unfold Apart
 rw [List.pairwise_append]
 exact ⟨h, by simp, fun a ha b hb => by rw [List.mem_singleton.1 hb]; exact hx a ha⟩
theorem row_apart {key : σ → κ} {nxt : σ → Nat → σ} {s : σ} : ∀ (cs : List Nat) (l : List σ), Apart key l → Apart key (row key nxt s cs l).1
 | [], l, h => by simpa [row] using h
 | c :: cs, l, h => by
  unfold row
  split
  ·exact row_apart cs l h
  ·rename_i hn
   exact row_apart cs _ (h.snoc (find_none hn))
theorem row_get {key : σ → κ} {nxt : σ → Nat → σ} {s : σ} : ∀ (cs : List Nat) (l : List σ) (i : Nat) (c : Nat), cs[i]? = some c →
  ∃ j, (row key nxt s cs l).2[i]? = some j ∧ ∃ h : j < (row key nxt s cs l).1.length, key (row key nxt s cs l).1[j] = key (nxt s c)
 | [], _, _, _, h => by simp at h
 | c0 :: cs, l, i, c, h => by
  cases hf : find key (key (nxt s c0)) l with
  | some j0 =>
   simp only [row_some hf]
   cases i with
   | zero =>
    obtain rfl : c0 = c := by simpa using h
    obtain ⟨hl, e⟩ := find_some hf
    obtain ⟨m, hm⟩ := row_prefix (key := key) (nxt := nxt) (s := s) cs l
    exact ⟨j0, by simp, by simp only [hm]; simp; omega, by simp only [hm]; rw [List.getElem_append_left hl]; exact e⟩
   | succ i =>
    obtain ⟨j, hj, hl, e⟩ := row_get cs l i c (by simpa using h)
    exact ⟨j, by simpa using hj, hl, e⟩
  | none =>
   simp only [row_none hf]
   cases i with
   | zero =>
    obtain rfl : c0 = c := by simpa using h
    obtain ⟨m, hm⟩ := row_prefix (key := key) (nxt := nxt) (s := s) cs (l ++ [nxt s c0])
    exact ⟨l.length, by simp, by simp only [hm]; simp, by simp only [hm]; simp⟩
   | succ i =>
    obtain ⟨j, hj, hl, e⟩ := row_get cs (l ++ [nxt s c0]) i c (by simpa using h)
    exact ⟨j, by simpa using hj, hl, e⟩
/-- whatever holds of what is met first, and is kept -/
theorem row_all {key : σ → κ} {nxt : σ → Nat → σ} {s : σ} {Q : σ → Prop} : ∀ (cs : List Nat) (l : List σ), (∀ c ∈ cs, Q (nxt s c)) → (∀ x ∈ l, Q x) → ∀ x ∈ (row key nxt s cs l).1, Q x
 | [], l, _, h => by simpa [row] using h
 | c :: cs, l, hn, h => by
  have hn' : ∀ c ∈ cs, Q (nxt s c) := fun d hd => hn d (List.mem_cons_of_mem _ hd)
  unfold row
  split
  ·exact row_all cs l hn' h
  ·refine row_all cs _ hn' (fun x hx => ?_)
   rcases List.mem_append.1 hx with hx | hx
   ·exact h x hx
   ·rw [List.mem_singleton.1 hx]; exact hn c (List.mem_cons_self ..)
/-- What a numbering that has ended says. -/
structure Done (key : σ → κ) (nxt : σ → Nat → σ) (cols : List Nat) (l : List σ) (rows : List (List Nat)) : Prop where
 len : rows.length = l.length
 apart : Apart key l
 wide : ∀ r ∈ rows, r.length = cols.length
 at_ : ∀ (i : Nat) (h : i < l.length) (k c : Nat), cols[k]? = some c → ∃ j, ((rows[i]?).bind (·[k]?)) = some j ∧ ∃ hj : j < l.length, key l[j] = key (nxt l[i] c)
theorem bfs_done {key : σ → κ} {nxt : σ → Nat → σ} {cols : List Nat} {limit : Nat} : ∀ (f i : Nat) (l : List σ) (rows : List (List Nat)) (l' : List σ) (rows' : List (List Nat)), bfs key nxt cols limit f i l rows = some (some (l', rows')) →
  i ≤ l.length → rows.length = i → Apart key l → (∀ r ∈ rows, r.length = cols.length) →
  (∀ (i : Nat) (h : i < rows.length) (hl : i < l.length) (k c : Nat), cols[k]? = some c → ∃ j, rows[i][k]? = some j ∧ ∃ hj : j < l.length, key l[j] = key (nxt l[i] c)) →
  Done key nxt cols l' rows' ∧ (∃ m, l' = l ++ m)
 | 0, _, _, _, _, _, h, _, _, _, _, _ => by simp [bfs] at h
 | f + 1, i, l, rows, l', rows', h, hi, hr, ha, hw, hg => by
  unfold bfs at h
  split at h
  ·rename_i hil
   split at h
   ·simp at h
   ·obtain ⟨m, hm⟩ := row_prefix (key := key) (nxt := nxt) (s := l[i]) cols l
    obtain ⟨d, m', hm'⟩ := bfs_done f (i + 1) _ _ l' rows' h (by rw [hm, List.length_append]; omega) (by simp [hr]) (row_apart _ _ ha)
     (fun r hr' => by
      rcases List.mem_append.1 hr' with hr' | hr'
      ·exact hw r hr'
      ·rw [List.mem_singleton.1 hr', row_length])
     (fun i' h1 h2 k c hk => by
      rw [List.length_append, List.length_singleton] at h1
      rcases Nat.lt_or_ge i' rows.length with hlt | hge
      ·obtain ⟨j, hj, hjl, e⟩ := hg i' hlt (by omega) k c hk
       refine ⟨j, by rw [List.getElem_append_left hlt]; exact hj, ?_⟩
       simp only [hm, List.length_append]
       exact ⟨by omega, by rw [List.getElem_append_left hjl, List.getElem_append_left (by omega)]; exact e⟩
      ·obtain rfl : i' = i := by omega
       obtain ⟨j, hj, hjl, e⟩ := row_get (key := key) (nxt := nxt) (s := l[i']) cols l k c hk
       have hii : (row key nxt l[i'] cols l).1[i'] = l[i'] := by simp only [hm]; rw [List.getElem_append_left hil]
       refine ⟨j, by rw [List.getElem_append_right (by omega)]; simpa [hr] using hj, hjl, by rw [hii]; exact e⟩)
    exact ⟨d, m ++ m', by rw [hm', hm, List.append_assoc]⟩
  ·rename_i hil
   simp only [Option.some.injEq, Prod.mk.injEq] at h
   obtain ⟨rfl, rfl⟩ := h
   refine ⟨⟨by omega, ha, hw, fun i' h1 k c hk => ?_⟩, [], by simp⟩
   obtain ⟨j, hj, hjl, e⟩ := hg i' (by omega) h1 k c hk
   refine ⟨j, ?_, hjl, e⟩
   rw [List.getElem?_eq_getElem (by omega)]
   exact hj
theorem bfs_all {key : σ → κ} {nxt : σ → Nat → σ} {cols : List Nat} {limit : Nat} {Q : σ → Prop} (hn : ∀ s, Q s → ∀ c ∈ cols, Q (nxt s c)) : ∀ (f i : Nat) (l : List σ) (rows : List (List Nat)) (l' : List σ) (rows' : List (List Nat)),
  bfs key nxt cols limit f i l rows = some (some (l', rows')) → (∀ x ∈ l, Q x) → ∀ x ∈ l', Q x
 | 0, _, _, _, _, _, h, _ => by simp [bfs] at h
 | f + 1, i, l, rows, l', rows', h, hq => by
  unfold bfs at h
  split at h
  ·rename_i hil
   split at h
   ·simp at h
   ·exact bfs_all hn f _ _ _ _ _ h (row_all _ _ (hn _ (hq _ (List.getElem_mem _))) hq)
  ·simp only [Option.some.injEq, Prod.mk.injEq] at h
   rw [← h.1]; exact hq
end
/-! ### two numberings, step by step -/
section
variable {σ τ κ μ : Type} [DecidableEq κ] [DecidableEq μ] {key1 : σ → κ} {key2 : τ → μ} {nxt1 : σ → Nat → σ} {nxt2 : τ → Nat → τ} {R : σ → τ → Prop}
theorem find_lock (hk : ∀ s t s' t', R s t → R s' t' → (key1 s = key1 s' ↔ key2 t = key2 t')) {s : σ} {t : τ} (hst : R s t) : ∀ {l : List σ} {m : List τ}, Two R l m → find key1 (key1 s) l = find key2 (key2 t) m
 | [], [], _ => rfl
 | x :: l, y :: m, h => by
  unfold find
  have := hk x y s t h.1 hst
  rw [find_lock hk hst h.2]
  by_cases e : key1 x = key1 s
  ·rw [if_pos e, if_pos (this.1 e)]
  ·rw [if_neg e, if_neg (fun e2 => e (this.2 e2))]
theorem row_lock (hk : ∀ s t s' t', R s t → R s' t' → (key1 s = key1 s' ↔ key2 t = key2 t')) {s : σ} {t : τ} :
  ∀ (cs : List Nat) (l : List σ) (m : List τ), (∀ c ∈ cs, R (nxt1 s c) (nxt2 t c)) → Two R l m → Two R (row key1 nxt1 s cs l).1 (row key2 nxt2 t cs m).1 ∧ (row key1 nxt1 s cs l).2 = (row key2 nxt2 t cs m).2
 | [], l, m, _, h => by simpa [row] using h
 | c :: cs, l, m, hn, h => by
  have hc := hn c (List.mem_cons_self ..)
  have hn' : ∀ c ∈ cs, R (nxt1 s c) (nxt2 t c) := fun d hd => hn d (List.mem_cons_of_mem _ hd)
  unfold row
  rw [find_lock hk hc h]
  cases find key2 (key2 (nxt2 t c)) m with
  | some j =>
   obtain ⟨h1, h2⟩ := row_lock hk cs l m hn' h
   exact ⟨h1, by simp only [h2]⟩
  | none =>
   obtain ⟨h1, h2⟩ := row_lock hk cs _ _ hn' (h.snoc hc)
   exact ⟨h1, by simp only [h2, h.length]⟩
def LockR (R : σ → τ → Prop) : Option (Option (List σ × List (List Nat))) → Option (Option (List τ × List (List Nat))) → Prop
 | none, none => True
 | some none, some none => True
 | some (some p), some (some q) => Two R p.1 q.1 ∧ p.2 = q.2
 | _, _ => False
theorem bfs_lock (hk : ∀ s t s' t', R s t → R s' t' → (key1 s = key1 s' ↔ key2 t = key2 t')) (cols : List Nat) (hn : ∀ s t, R s t → ∀ c ∈ cols, R (nxt1 s c) (nxt2 t c)) (limit : Nat) :
  ∀ (f i : Nat) (l : List σ) (m : List τ) (rows : List (List Nat)), Two R l m → LockR R (bfs key1 nxt1 cols limit f i l rows) (bfs key2 nxt2 cols limit f i m rows)
 | 0, _, _, _, _, _ => by simp [bfs, LockR]
 | f + 1, i, l, m, rows, h => by
  have hlen := h.length
  unfold bfs
  by_cases hi : i < l.length
  ·have hj : i < m.length := by omega
   rw [dif_pos hi, dif_pos hj]
   obtain ⟨h1, h2⟩ := row_lock (nxt1 := nxt1) (nxt2 := nxt2) hk (s := l[i]) (t := m[i]) cols l m (hn _ _ (h.get i hi hj)) h
   rw [h1.length, h2]
   split
   ·exact trivial
   ·exact bfs_lock hk cols hn limit f (i + 1) _ _ _ h1
  ·rw [dif_neg hi, dif_neg (by omega)]
   exact ⟨h, rfl⟩
end
/-! ### languages -/
structure Aut (σ : Type) where
 step : σ → Nat → σ
 acc : σ → Bool
def lang {σ : Type} (A : Aut σ) : σ → List Nat → Bool
 | s, [] => A.acc s
 | s, c :: cs => lang A (A.step s c) cs
def Cols (w : Nat) (cs : List Nat) : Prop := ∀ c ∈ cs, c < w
def Same {σ τ : Type} (w : Nat) (A : Aut σ) (B : Aut τ) (s : σ) (t : τ) : Prop := ∀ cs, Cols w cs → lang A s cs = lang B t cs
theorem Same.refl {σ : Type} (w : Nat) (A : Aut σ) (s : σ) : Same w A A s s := fun _ _ => rfl
theorem Same.symm {σ τ : Type} {w : Nat} {A : Aut σ} {B : Aut τ} {s : σ} {t : τ} (h : Same w A B s t) : Same w B A t s := fun cs hc => (h cs hc).symm
theorem Same.trans {σ τ υ : Type} {w : Nat} {A : Aut σ} {B : Aut τ} {C : Aut υ} {s : σ} {t : τ} {u : υ} (h : Same w A B s t) (h2 : Same w B C t u) : Same w A C s u := fun cs hc => (h cs hc).trans (h2 cs hc)
theorem Cols.cons {w c : Nat} {cs : List Nat} (hc : c < w) (h : Cols w cs) : Cols w (c :: cs) := fun d hd => by
 rcases List.mem_cons.1 hd with rfl | hd
 ·exact hc
 ·exact h d hd
theorem Same.step {σ τ : Type} {w : Nat} {A : Aut σ} {B : Aut τ} {s : σ} {t : τ} (h : Same w A B s t) {c : Nat} (hc : c < w) : Same w A B (A.step s c) (B.step t c) := fun cs hcs => h (c :: cs) (hcs.cons hc)
theorem Same.acc {σ τ : Type} {w : Nat} {A : Aut σ} {B : Aut τ} {s : σ} {t : τ} (h : Same w A B s t) : A.acc s = B.acc t := h [] (fun _ hc => by simp at hc)
theorem Same.of {σ τ : Type} {w : Nat} {A : Aut σ} {B : Aut τ} (R : σ → τ → Prop) (ha : ∀ s t, R s t → A.acc s = B.acc t) (hs : ∀ s t, R s t → ∀ c, c < w → R (A.step s c) (B.step t c)) : ∀ {s : σ} {t : τ}, R s t → Same w A B s t := by
 intro s t h cs
 induction cs generalizing s t with
 | nil => intro _; exact ha s t h
 | cons c cs ih => intro hc; exact ih (hs s t h c (hc c (List.mem_cons_self ..))) (fun d hd => hc d (List.mem_cons_of_mem _ hd))
def UpTo {σ : Type} (w k : Nat) (A : Aut σ) (s t : σ) : Prop := ∀ cs, cs.length ≤ k → Cols w cs → lang A s cs = lang A t cs
theorem UpTo.mono {σ : Type} {w k j : Nat} {A : Aut σ} {s t : σ} (h : UpTo w k A s t) (hj : j ≤ k) : UpTo w j A s t := fun cs hl hc => h cs (Nat.le_trans hl hj) hc
theorem UpTo.succ {σ : Type} {w k : Nat} {A : Aut σ} {s t : σ} : UpTo w (k + 1) A s t ↔ A.acc s = A.acc t ∧ ∀ c, c < w → UpTo w k A (A.step s c) (A.step t c) := by
 constructor
 ·intro h
  exact ⟨h [] (Nat.zero_le _) (fun _ hc => by simp at hc), fun c hc cs hl hcs => h (c :: cs) (by simpa using hl) (hcs.cons hc)⟩
 ·rintro ⟨h1, h2⟩ cs hl hc
  cases cs with
  | nil => exact h1
  | cons c cs => exact h2 c (hc c (List.mem_cons_self ..)) cs (by simpa using hl) (fun d hd => hc d (List.mem_cons_of_mem _ hd))
theorem UpTo.zero {σ : Type} {w : Nat} {A : Aut σ} {s t : σ} : UpTo w 0 A s t ↔ A.acc s = A.acc t := by
 constructor
 ·intro h
  exact h [] (Nat.le_refl _) (fun _ hc => by simp at hc)
 ·intro h cs hl _
  obtain rfl : cs = [] := List.length_eq_zero_iff.1 (by omega)
  exact h
/-! ### as many -/
theorem nodup_le {α : Type} [DecidableEq α] : ∀ {l m : List α}, l.Nodup → (∀ x ∈ l, x ∈ m) → l.length ≤ m.length
 | [], _, _, _ => by simp
 | a :: l, m, hn, hs => by
  obtain ⟨h1, h2⟩ := List.nodup_cons.1 hn
  have ha := hs a (List.mem_cons_self ..)
  have := nodup_le (l := l) (m := m.erase a) h2 (fun x hx => (List.mem_erase_of_ne (fun e => h1 (by rw [← e]; exact hx))).2 (hs x (List.mem_cons_of_mem _ hx)))
  rw [List.length_erase_of_mem ha] at this
  have : 0 < m.length := List.length_pos_of_mem ha
  simp
  omega
theorem inj_of_onto {m : Nat} {h : Nat → Nat} (hs : ∀ i, i < m → ∃ j, j < m ∧ h j = i) : ∀ i j, i < m → j < m → h i = h j → i = j := by
 intro i j hi hj e
 rcases Nat.decEq i j with hne | he
 ·exfalso
  have := nodup_le (l := List.range m) (m := ((List.range m).erase i).map h) List.nodup_range (fun x hx => by
   obtain ⟨a, ha, hax⟩ := hs x (List.mem_range.1 hx)
   rcases Nat.decEq a i with hai | hai
   ·exact List.mem_map.2 ⟨a, (List.mem_erase_of_ne hai).2 (List.mem_range.2 ha), hax⟩
   ·exact List.mem_map.2 ⟨j, (List.mem_erase_of_ne (fun e => hne e.symm)).2 (List.mem_range.2 hj), by rw [← e, ← hai]; exact hax⟩)
  rw [List.length_map, List.length_erase_of_mem (List.mem_range.2 hi), List.length_range] at this
  omega
 ·exact he
/-- all numbers below m are met -/
structure Onto (n : Nat) (g : Nat → Nat) (m : Nat) : Prop where
 lt : ∀ x, x < n → g x < m
 onto : ∀ j, j < m → ∃ x, x < n ∧ g x = j
theorem Onto.le {n m m' : Nat} {g g' : Nat → Nat} (h : Onto n g m) (h' : Onto n g' m') (hf : ∀ x y, x < n → y < n → g' x = g' y → g x = g y) : m ≤ m' := by
 have hc : ∀ j : Nat, ∃ x, j < m → x < n ∧ g x = j := fun j => by
  rcases Nat.lt_or_ge j m with hj | hj
  ·obtain ⟨x, hx⟩ := h.onto j hj
   exact ⟨x, fun _ => hx⟩
  ·exact ⟨0, fun h => absurd h (by omega)⟩
 have hp : ∃ p : Nat → Nat, ∀ j, j < m → p j < n ∧ g (p j) = j := ⟨fun j => Classical.choose (hc j), fun j hj => Classical.choose_spec (hc j) hj⟩
 obtain ⟨p, hp⟩ := hp
 have := nodup_le (l := (List.range m).map (fun j => g' (p j))) (m := List.range m') (by
  rw [List.nodup_iff_pairwise_ne, List.pairwise_map]
  refine List.Pairwise.imp_of_mem ?_ (List.nodup_iff_pairwise_ne.1 (List.nodup_range (n := m)))
  intro a b ha hb hne e
  have ha' := hp a (List.mem_range.1 ha)
  have hb' := hp b (List.mem_range.1 hb)
  exact hne (by rw [← ha'.2, ← hb'.2]; exact hf _ _ ha'.1 hb'.1 e)) (fun x hx => by
  obtain ⟨j, hj, rfl⟩ := List.mem_map.1 hx
  exact List.mem_range.2 (h'.lt _ (hp j (List.mem_range.1 hj)).1))
 simpa using this
theorem Onto.le_n {n m : Nat} {g : Nat → Nat} (h : Onto n g m) : m ≤ n := Onto.le h (g' := id) (m' := n) ⟨fun _ hx => hx, fun j hj => ⟨j, hj, rfl⟩⟩ (fun _ _ _ _ e => congrArg g e)
/-- A finer one with as many classes is no finer. -/
theorem Onto.same {n m : Nat} {g g' : Nat → Nat} (h : Onto n g m) (h' : Onto n g' m) (hf : ∀ x y, x < n → y < n → g' x = g' y → g x = g y) : ∀ x y, x < n → y < n → g x = g y → g' x = g' y := by
 have hc : ∀ j : Nat, ∃ x, j < m → x < n ∧ g' x = j := fun j => by
  rcases Nat.lt_or_ge j m with hj | hj
  ·obtain ⟨x, hx⟩ := h'.onto j hj
   exact ⟨x, fun _ => hx⟩
  ·exact ⟨0, fun h => absurd h (by omega)⟩
 have hp : ∃ p : Nat → Nat, ∀ j, j < m → p j < n ∧ g' (p j) = j := ⟨fun j => Classical.choose (hc j), fun j hj => Classical.choose_spec (hc j) hj⟩
 obtain ⟨p, hp⟩ := hp
 have key : ∀ x, x < n → g (p (g' x)) = g x := fun x hx => by
  have := hp (g' x) (h'.lt x hx)
  exact hf _ _ this.1 hx this.2
 intro x y hx hy e
 refine inj_of_onto (h := fun j => g (p j)) (fun i hi => ?_) _ _ (h'.lt x hx) (h'.lt y hy) (by show g (p (g' x)) = g (p (g' y)); rw [key x hx, key y hy, e])
 obtain ⟨z, hz, rfl⟩ := h.onto i hi
 exact ⟨g' z, h'.lt z hz, key z hz⟩
/-! ### classes -/
theorem refine_level {n w k : Nat} {A : Aut Nat} (hcl : ∀ q, q < n → ∀ c, c < w → A.step q c < n) {g g' : Nat → Nat} (hk : ∀ x y, x < n → y < n → (g x = g y ↔ UpTo w k A x y))
  (hr : ∀ x y, x < n → y < n → (g' x = g' y ↔ g x = g y ∧ ∀ c, c < w → g (A.step x c) = g (A.step y c))) : ∀ x y, x < n → y < n → (g' x = g' y ↔ UpTo w (k + 1) A x y) := by
 intro x y hx hy
 rw [hr x y hx hy, hk x y hx hy, UpTo.succ]
 constructor
 ·rintro ⟨h1, h2⟩
  exact ⟨UpTo.zero.1 (h1.mono (Nat.zero_le _)), fun c hc => (hk _ _ (hcl x hx c hc) (hcl y hy c hc)).1 (h2 c hc)⟩
 ·rintro ⟨h1, h2⟩
  refine ⟨?_, fun c hc => (hk _ _ (hcl x hx c hc) (hcl y hy c hc)).2 (h2 c hc)⟩
  exact (UpTo.succ.2 ⟨h1, h2⟩).mono (Nat.le_succ _)
theorem stable_same {n w k m : Nat} {A : Aut Nat} (hcl : ∀ q, q < n → ∀ c, c < w → A.step q c < n) {g g' : Nat → Nat} (hk : ∀ x y, x < n → y < n → (g x = g y ↔ UpTo w k A x y))
  (hk' : ∀ x y, x < n → y < n → (g' x = g' y ↔ UpTo w (k + 1) A x y)) (ho : Onto n g m) (ho' : Onto n g' m) : ∀ x y, x < n → y < n → (g' x = g' y ↔ Same w A A x y) := by
 have hst : ∀ x y, x < n → y < n → UpTo w k A x y → UpTo w (k + 1) A x y := fun x y hx hy h =>
  (hk' x y hx hy).1 (ho.same ho' (fun a b ha hb e => (hk a b ha hb).2 (((hk' a b ha hb).1 e).mono (Nat.le_succ _))) x y hx hy ((hk x y hx hy).2 h))
 have hall : ∀ j x y, x < n → y < n → UpTo w k A x y → UpTo w j A x y := by
  intro j
  induction j with
  | zero => intro x y _ _ h; exact h.mono (Nat.zero_le _)
  | succ j ih =>
   intro x y hx hy h
   obtain ⟨h1, h2⟩ := UpTo.succ.1 (hst x y hx hy h)
   exact UpTo.succ.2 ⟨h1, fun c hc => ih _ _ (hcl x hx c hc) (hcl y hy c hc) (h2 c hc)⟩
 intro x y hx hy
 rw [hk' x y hx hy]
 constructor
 ·intro h cs hc
  exact hall cs.length x y hx hy (h.mono (Nat.le_succ _)) cs (Nat.le_refl _) hc
 ·intro h cs _ hc
  exact h cs hc
/-! ### numbers in the order of their first places -/
def number {κ : Type} [DecidableEq κ] : List κ → List κ → List Nat × List κ
 | [], seen => ([], seen)
 | k :: ks, seen =>
  match find id k seen with
  | some j => (j :: (number ks seen).1, (number ks seen).2)
  | none => (seen.length :: (number ks (seen ++ [k])).1, (number ks (seen ++ [k])).2)
structure Numbered {κ : Type} (ks seen : List κ) (out : List Nat) (seen' : List κ) : Prop where
 len : out.length = ks.length
 pre : ∃ m, seen' = seen ++ m
 apart : seen'.Pairwise (fun a b => a ≠ b)
 at_ : ∀ (i : Nat) (h : i < ks.length), ∃ j, out[i]? = some j ∧ seen'[j]? = some ks[i]
 from_ : ∀ j, seen.length ≤ j → j < seen'.length → ∃ i, i < ks.length ∧ out[i]? = some j
theorem number_spec {κ : Type} [DecidableEq κ] : ∀ (ks seen : List κ), seen.Pairwise (fun a b => a ≠ b) → Numbered ks seen (number ks seen).1 (number ks seen).2
 | [], seen, h => ⟨rfl, ⟨[], by simp [number]⟩, by simpa [number] using h, fun i h => by simp at h, fun j h1 h2 => by simp [number] at h2; omega⟩
 | k :: ks, seen, h => by
  cases hf : find id k seen with
  | some j =>
   have he : number (k :: ks) seen = (j :: (number ks seen).1, (number ks seen).2) := by rw [number, hf]
   rw [he]
   obtain ⟨h1, ⟨m, hm⟩, h3, h4, h5⟩ := number_spec ks seen h
   obtain ⟨hl, e⟩ := find_some hf
   refine ⟨by simp [h1], ⟨m, hm⟩, h3, fun i hi => ?_, fun j' hj hj' => ?_⟩
   ·cases i with
    | zero => exact ⟨j, by simp, by rw [hm, List.getElem?_append_left hl, List.getElem?_eq_getElem hl]; simpa using e⟩
    | succ i =>
     obtain ⟨a, ha, hb⟩ := h4 i (by simpa using hi)
     exact ⟨a, by simpa using ha, by simpa using hb⟩
   ·obtain ⟨i, hi, e⟩ := h5 j' hj hj'
    exact ⟨i + 1, by simpa using hi, by simpa using e⟩
  | none =>
   have he : number (k :: ks) seen = (seen.length :: (number ks (seen ++ [k])).1, (number ks (seen ++ [k])).2) := by rw [number, hf]
   rw [he]
   have hap : (seen ++ [k]).Pairwise (fun a b => a ≠ b) := Apart.snoc (key := id) h (find_none hf)
   obtain ⟨h1, ⟨m, hm⟩, h3, h4, h5⟩ := number_spec ks (seen ++ [k]) hap
   refine ⟨by simp [h1], ⟨k :: m, by rw [hm]; simp⟩, h3, fun i hi => ?_, fun j' hj hj' => ?_⟩
   ·cases i with
    | zero => exact ⟨seen.length, by simp, by rw [hm]; simp⟩
    | succ i =>
     obtain ⟨a, ha, hb⟩ := h4 i (by simpa using hi)
     exact ⟨a, by simpa using ha, by simpa using hb⟩
   ·rcases Nat.lt_or_ge seen.length j' with hlt | hge
    ·obtain ⟨i, hi, e⟩ := h5 j' (by simp; omega) hj'
     exact ⟨i + 1, by simpa using hi, by simpa using e⟩
    ·exact ⟨0, by simp, by simp; omega⟩
theorem Numbered.eq_iff {κ : Type} {ks : List κ} {out : List Nat} {seen' : List κ} (h : Numbered ks [] out seen') {x y : Nat} (hx : x < ks.length) (hy : y < ks.length) : out.getD x 0 = out.getD y 0 ↔ ks[x] = ks[y] := by
 obtain ⟨j, hj, e⟩ := h.at_ x hx
 obtain ⟨i, hi, e2⟩ := h.at_ y hy
 rw [List.getD_eq_getElem?_getD, List.getD_eq_getElem?_getD, hj, hi, Option.getD_some, Option.getD_some]
 constructor
 ·rintro rfl
  rw [e] at e2
  exact Option.some.inj e2
 ·intro heq
  rw [heq, ← e2] at e
  obtain ⟨hjl, _⟩ := List.getElem?_eq_some_iff.1 e2
  have hjl' : j < seen'.length := by
   rcases Nat.lt_or_ge j seen'.length with hl | hl
   ·exact hl
   ·rw [List.getElem?_eq_none hl, List.getElem?_eq_getElem hjl] at e; cases e
  rcases Nat.lt_trichotomy j i with hlt | heq | hlt
  ·exact absurd (by rw [List.getElem?_eq_getElem hjl', List.getElem?_eq_getElem hjl] at e; exact Option.some.inj e) (List.pairwise_iff_getElem.1 h.apart j i hjl' hjl hlt)
  ·exact heq
  ·exact absurd (by rw [List.getElem?_eq_getElem hjl', List.getElem?_eq_getElem hjl] at e; exact (Option.some.inj e).symm) (List.pairwise_iff_getElem.1 h.apart i j hjl hjl' hlt)
theorem Numbered.onto {κ : Type} {ks : List κ} {out : List Nat} {seen' : List κ} (h : Numbered ks [] out seen') : Onto ks.length (fun x => out.getD x 0) seen'.length := by
 refine ⟨fun x hx => ?_, fun j hj => ?_⟩
 ·obtain ⟨j, hj, e⟩ := h.at_ x hx
  show out.getD x 0 < _
  rw [List.getD_eq_getElem?_getD, hj, Option.getD_some]
  exact (List.getElem?_eq_some_iff.1 e).1
 ·obtain ⟨i, hi, e⟩ := h.from_ j (by simp) hj
  exact ⟨i, hi, by show out.getD i 0 = j; rw [List.getD_eq_getElem?_getD, e, Option.getD_some]⟩
/-! ### a machine by its rows, its classes -/
def mach (rows : List (List Nat)) (accs : List Bool) : Aut Nat := ⟨fun q c => (rows.getD q []).getD c 0, fun q => accs.getD q false⟩
/-- what a state's class hangs on -/
def keyOf (rows : List (List Nat)) (g : List Nat) (q : Nat) : List Nat := g.getD q 0 :: (rows.getD q []).map (fun p => g.getD p 0)
def keys (rows : List (List Nat)) (g : List Nat) : List (List Nat) := (List.range rows.length).map (keyOf rows g)
def classes (rows : List (List Nat)) : Nat → List Nat → Nat → Option (List Nat)
 | 0, _, _ => none
 | f + 1, g, m => if (number (keys rows g) []).2.length = m then some (number (keys rows g) []).1 else classes rows f (number (keys rows g) []).1 (number (keys rows g) []).2.length
def first (accs : List Bool) : List Nat := accs.map (fun a => if a then 1 else 0)
/-- A machine that is right: rows as wide as columns, of states that are there. -/
structure Closed (w : Nat) (rows : List (List Nat)) (accs : List Bool) : Prop where
 len : rows.length = accs.length
 wide : ∀ r ∈ rows, r.length = w
 lt : ∀ r ∈ rows, ∀ q ∈ r, q < rows.length
theorem Closed.step {w : Nat} {rows : List (List Nat)} {accs : List Bool} (h : Closed w rows accs) {q : Nat} (hq : q < rows.length) {c : Nat} (hc : c < w) : (mach rows accs).step q c < rows.length := by
 have hr := List.getElem_mem hq
 have hl : c < rows[q].length := by rw [h.wide _ hr]; exact hc
 have : (mach rows accs).step q c = rows[q][c] := by simp [mach, List.getD_eq_getElem?_getD, hq, hl]
 rw [this]
 exact h.lt _ hr _ (List.getElem_mem hl)
theorem keys_refine {w : Nat} {rows : List (List Nat)} {accs : List Bool} (h : Closed w rows accs) (g : List Nat) : ∀ x y, x < rows.length → y < rows.length →
  ((number (keys rows g) []).1.getD x 0 = (number (keys rows g) []).1.getD y 0 ↔ g.getD x 0 = g.getD y 0 ∧ ∀ c, c < w → g.getD ((mach rows accs).step x c) 0 = g.getD ((mach rows accs).step y c) 0) := by
 intro x y hx hy
 have hn := number_spec (keys rows g) [] List.Pairwise.nil
 have hl : (keys rows g).length = rows.length := by simp [keys]
 rw [hn.eq_iff (by omega) (by omega)]
 have e : ∀ z (hz : z < rows.length), (keys rows g)[z]'(by omega) = g.getD z 0 :: rows[z].map (fun p => g.getD p 0) := fun z hz => by simp [keys, keyOf, List.getD_eq_getElem?_getD, hz]
 rw [e x hx, e y hy, List.cons.injEq]
 refine and_congr Iff.rfl ?_
 have wx := h.wide _ (List.getElem_mem hx)
 have wy := h.wide _ (List.getElem_mem hy)
 constructor
 ·intro he c hc
  have := congrArg (fun l => l[c]?) he
  simp only [List.getElem?_map, List.getElem?_eq_getElem (show c < rows[x].length by omega), List.getElem?_eq_getElem (show c < rows[y].length by omega), Option.map_some, Option.some.injEq] at this
  simpa [mach, List.getD_eq_getElem?_getD, hx, hy, wx, wy, hc] using this
 ·intro he
  apply List.ext_getElem
  ·simp [wx, wy]
  ·intro c h1 h2
   have hc : c < w := by simpa [wx] using h1
   have := he c hc
   simp only [mach, List.getD_eq_getElem?_getD, List.getElem?_eq_getElem hx, List.getElem?_eq_getElem hy, Option.getD_some, List.getElem?_eq_getElem (show c < rows[x].length by omega), List.getElem?_eq_getElem (show c < rows[y].length by omega)] at this
   simpa [List.getD_eq_getElem?_getD] using this
theorem classes_same {w : Nat} {rows : List (List Nat)} {accs : List Bool} (h : Closed w rows accs) : ∀ (f k : Nat) (g : List Nat) (m : Nat) (g' : List Nat), classes rows f g m = some g' →
  (∀ x y, x < rows.length → y < rows.length → (g.getD x 0 = g.getD y 0 ↔ UpTo w k (mach rows accs) x y)) → (m = 0 ∧ 0 < rows.length ∨ Onto rows.length (fun x => g.getD x 0) m) →
  g'.length = rows.length ∧ ∀ x y, x < rows.length → y < rows.length → (g'.getD x 0 = g'.getD y 0 ↔ Same w (mach rows accs) (mach rows accs) x y)
 | 0, _, _, _, _, he, _, _ => by simp [classes] at he
 | f + 1, k, g, m, g', he, hk, ho => by
  have hn := number_spec (keys rows g) [] List.Pairwise.nil
  have hl : (keys rows g).length = rows.length := by simp [keys]
  have hk' := refine_level (g := fun x => g.getD x 0) (g' := fun x => (number (keys rows g) []).1.getD x 0) (fun q hq c hc => h.step hq hc) hk (keys_refine h g)
  have ho' := hn.onto
  rw [hl] at ho'
  unfold classes at he
  split at he
  ·rename_i hm
   obtain rfl := Option.some.inj he
   rw [hm] at ho'
   refine ⟨by rw [hn.len, hl], ?_⟩
   rcases ho with ⟨rfl, hp⟩ | ho
   ·exact absurd (ho'.lt 0 hp) (by omega)
   ·exact stable_same (fun q hq c hc => h.step hq hc) hk hk' ho ho'
  ·exact classes_same h f (k + 1) _ _ g' he hk' (.inr ho')
theorem keys_fin {rows : List (List Nat)} (g : List Nat) {x y : Nat} (hx : x < rows.length) (hy : y < rows.length) (e : (number (keys rows g) []).1.getD x 0 = (number (keys rows g) []).1.getD y 0) : g.getD x 0 = g.getD y 0 := by
 have hn := number_spec (keys rows g) [] List.Pairwise.nil
 have hl : (keys rows g).length = rows.length := by simp [keys]
 have := (hn.eq_iff (by omega) (by omega)).1 e
 have e : ∀ z (hz : z < rows.length), (keys rows g)[z]'(by omega) = g.getD z 0 :: rows[z].map (fun p => g.getD p 0) := fun z hz => by simp [keys, keyOf, List.getD_eq_getElem?_getD, hz]
 rw [e x hx, e y hy, List.cons.injEq] at this
 exact this.1
theorem classes_end {rows : List (List Nat)} : ∀ (f : Nat) (g : List Nat) (m : Nat), rows.length < f + m → (m = 0 ∨ Onto rows.length (fun x => g.getD x 0) m) → ∃ g', classes rows f g m = some g'
 | 0, g, m, hf, ho => by
  rcases ho with rfl | ho
  ·omega
  ·have := ho.le_n; omega
 | f + 1, g, m, hf, ho => by
  have hn := number_spec (keys rows g) [] List.Pairwise.nil
  have hl : (keys rows g).length = rows.length := by simp [keys]
  have ho' := hn.onto
  rw [hl] at ho'
  unfold classes
  split
  ·exact ⟨_, rfl⟩
  ·rename_i hne
   refine classes_end f _ _ ?_ (.inr ho')
   rcases ho with rfl | ho
   ·omega
   ·have := ho.le ho' (fun x y hx hy e => keys_fin g hx hy e)
    omega
theorem first_level (w : Nat) (rows : List (List Nat)) (accs : List Bool) {x y : Nat} (hx : x < accs.length) (hy : y < accs.length) : (first accs).getD x 0 = (first accs).getD y 0 ↔ UpTo w 0 (mach rows accs) x y := by
 rw [UpTo.zero]
 have : ∀ z, z < accs.length → (first accs).getD z 0 = if accs.getD z false then 1 else 0 := fun z hz => by simp [first, List.getD_eq_getElem?_getD, hz]
 rw [this x hx, this y hy]
 show _ ↔ accs.getD x false = accs.getD y false
 cases accs.getD x false <;> cases accs.getD y false <;> simp
/-- The classes of a right machine. -/
structure IsClasses (w : Nat) (rows : List (List Nat)) (accs : List Bool) (g : List Nat) : Prop where
 len : g.length = rows.length
 iff_ : ∀ x y, x < rows.length → y < rows.length → (g.getD x 0 = g.getD y 0 ↔ Same w (mach rows accs) (mach rows accs) x y)
theorem classes_is {w : Nat} {rows : List (List Nat)} {accs : List Bool} (h : Closed w rows accs) (hp : 0 < rows.length) {f : Nat} {g : List Nat} (hc : classes rows f (first accs) 0 = some g) : IsClasses w rows accs g := by
 obtain ⟨h1, h2⟩ := classes_same h f 0 (first accs) 0 g hc (fun x y hx hy => first_level w rows accs (by rw [← h.len]; exact hx) (by rw [← h.len]; exact hy)) (.inl ⟨rfl, hp⟩)
 exact ⟨h1, h2⟩
/-! ### the smallest machine, by classes or by states -/
/-- by the classes' numbers, one state of each being told -/
def byClass (w : Nat) (rows : List (List Nat)) (g : List Nat) (one : Nat → Nat) (s f : Nat) : Option (Option (List Nat × List (List Nat))) := bfs id (fun a c => g.getD ((rows.getD (one a) []).getD c 0) 0) (List.range w) 0 f 0 [g.getD s 0] []
/-- by states, compared by their classes -/
def byState (w : Nat) (rows : List (List Nat)) (g : List Nat) (s f : Nat) : Option (Option (List Nat × List (List Nat))) := bfs (fun q => g.getD q 0) (fun q c => (rows.getD q []).getD c 0) (List.range w) 0 f 0 [s] []
structure IsOne (rows : List (List Nat)) (g : List Nat) (one : Nat → Nat) : Prop where
 lt : ∀ x, x < rows.length → one (g.getD x 0) < rows.length
 eq : ∀ x, x < rows.length → g.getD (one (g.getD x 0)) 0 = g.getD x 0
def Met (w : Nat) (rows1 : List (List Nat)) (accs1 : List Bool) (g1 : List Nat) (rows2 : List (List Nat)) (accs2 : List Bool) (a t : Nat) : Prop :=
 t < rows2.length ∧ ∃ x, x < rows1.length ∧ a = g1.getD x 0 ∧ Same w (mach rows1 accs1) (mach rows2 accs2) x t
theorem canon {w : Nat} {rows1 rows2 : List (List Nat)} {accs1 accs2 : List Bool} {g1 g2 : List Nat} {one : Nat → Nat} {s1 s2 : Nat} (c1 : Closed w rows1 accs1) (c2 : Closed w rows2 accs2) (k1 : IsClasses w rows1 accs1 g1) (k2 : IsClasses w rows2 accs2 g2)
  (ho : IsOne rows1 g1 one) (h1 : s1 < rows1.length) (h2 : s2 < rows2.length) (hs : Same w (mach rows1 accs1) (mach rows2 accs2) s1 s2) (f : Nat) :
  LockR (Met w rows1 accs1 g1 rows2 accs2) (byClass w rows1 g1 one s1 f) (byState w rows2 g2 s2 f) := by
 unfold byClass byState
 refine bfs_lock (R := Met w rows1 accs1 g1 rows2 accs2) ?_ _ ?_ 0 f 0 _ _ _ ⟨⟨h2, s1, h1, rfl, hs⟩, trivial⟩
 ·rintro a t a' t' ⟨ht, x, hx, rfl, hxt⟩ ⟨ht', x', hx', rfl, hxt'⟩
  show g1.getD x 0 = g1.getD x' 0 ↔ g2.getD t 0 = g2.getD t' 0
  rw [k1.iff_ x x' hx hx', k2.iff_ t t' ht ht']
  constructor
  ·intro h
   exact hxt.symm.trans (h.trans hxt')
  ·intro h
   exact hxt.trans (h.trans hxt'.symm)
 ·rintro a t ⟨ht, x, hx, rfl, hxt⟩ c hc
  have hc := List.mem_range.1 hc
  have hx' := ho.lt x hx
  have hsx : Same w (mach rows1 accs1) (mach rows2 accs2) (one (g1.getD x 0)) t := ((k1.iff_ _ _ hx' hx).1 (ho.eq x hx)).trans hxt
  exact ⟨c2.step ht hc, _, c1.step hx' hc, rfl, hsx.step hc⟩
theorem met_acc {w : Nat} {rows1 rows2 : List (List Nat)} {accs1 accs2 : List Bool} {g1 : List Nat} {one : Nat → Nat} (k1 : IsClasses w rows1 accs1 g1) (ho : IsOne rows1 g1 one) {a t : Nat} (h : Met w rows1 accs1 g1 rows2 accs2 a t) :
  accs1.getD (one a) false = accs2.getD t false := by
 obtain ⟨ht, x, hx, rfl, hxt⟩ := h
 exact (((k1.iff_ _ _ (ho.lt x hx) hx).1 (ho.eq x hx)).trans hxt).acc
/-- Both tell the same machine. -/
theorem canon_eq {w : Nat} {rows1 rows2 : List (List Nat)} {accs1 accs2 : List Bool} {g1 g2 : List Nat} {one : Nat → Nat} {s1 s2 : Nat} (c1 : Closed w rows1 accs1) (c2 : Closed w rows2 accs2) (k1 : IsClasses w rows1 accs1 g1) (k2 : IsClasses w rows2 accs2 g2)
  (ho : IsOne rows1 g1 one) (h1 : s1 < rows1.length) (h2 : s2 < rows2.length) (hs : Same w (mach rows1 accs1) (mach rows2 accs2) s1 s2) {f : Nat} {l : List Nat} {rws : List (List Nat)} (hb : byClass w rows1 g1 one s1 f = some (some (l, rws))) :
  ∃ m, byState w rows2 g2 s2 f = some (some (m, rws)) ∧ l.map (fun a => accs1.getD (one a) false) = m.map (fun t => accs2.getD t false) := by
 have := canon c1 c2 k1 k2 ho h1 h2 hs f
 rw [hb] at this
 cases h : byState w rows2 g2 s2 f with
 | none => rw [h] at this; exact this.elim
 | some r =>
  rw [h] at this
  cases r with
  | none => exact this.elim
  | some p =>
   obtain ⟨m, rws'⟩ := p
   obtain ⟨h3, h4⟩ := this
   exact ⟨m, by rw [show rws = rws' from h4], Two.map_eq (fun a t h => met_acc k1 ho h) h3⟩
/-! ### a numbering ends -/
theorem bfs_end {σ κ : Type} [DecidableEq κ] {key : σ → κ} {nxt : σ → Nat → σ} {cols : List Nat} {limit : Nat} {Q : σ → Prop} {U : List κ} (hU : ∀ s, Q s → key s ∈ U) (hn : ∀ s, Q s → ∀ c ∈ cols, Q (nxt s c)) :
  ∀ (f i : Nat) (l : List σ) (rows : List (List Nat)), U.length < f + i → i ≤ l.length → Apart key l → (∀ x ∈ l, Q x) → ∃ r, bfs key nxt cols limit f i l rows = some r
 | 0, i, l, rows, hf, hi, ha, hq => by
  have := nodup_le (l := l.map key) (m := U) (by
   rw [List.nodup_iff_pairwise_ne, List.pairwise_map]
   exact ha) (fun x hx => by
   obtain ⟨s, hs, rfl⟩ := List.mem_map.1 hx
   exact hU s (hq s hs))
  rw [List.length_map] at this
  omega
 | f + 1, i, l, rows, hf, hi, ha, hq => by
  unfold bfs
  split
  ·rename_i hil
   split
   ·exact ⟨_, rfl⟩
   ·obtain ⟨m, hm⟩ := row_prefix (key := key) (nxt := nxt) (s := l[i]) cols l
    exact bfs_end hU hn f (i + 1) _ _ (by omega) (by rw [hm, List.length_append]; omega) (row_apart _ _ ha) (row_all _ _ (hn _ (hq _ (List.getElem_mem _))) hq)
  ·exact ⟨_, rfl⟩
/-- without a limit nothing is refused -/
theorem bfs_zero {σ κ : Type} [DecidableEq κ] {key : σ → κ} {nxt : σ → Nat → σ} {cols : List Nat} : ∀ (f i : Nat) (l : List σ) (rows : List (List Nat)), bfs key nxt cols 0 f i l rows ≠ some none
 | 0, _, _, _, h => by simp [bfs] at h
 | f + 1, i, l, rows, h => by
  unfold bfs at h
  split at h
  ·rw [if_neg (by omega)] at h
   exact bfs_zero f _ _ _ h
  ·simp at h
/-- What is numbered is a right machine; its states say what was numbered. -/
theorem done_closed {σ κ : Type} [DecidableEq κ] {key : σ → κ} {nxt : σ → Nat → σ} {w : Nat} {l : List σ} {rows : List (List Nat)} (acc : σ → Bool) (h : Done key nxt (List.range w) l rows) : Closed w rows (l.map acc) := by
 refine ⟨by rw [h.len, List.length_map], fun r hr => by rw [h.wide r hr, List.length_range], fun r hr q hq => ?_⟩
 obtain ⟨i, hi, rfl⟩ := List.getElem_of_mem hr
 obtain ⟨c, hc, rfl⟩ := List.getElem_of_mem hq
 have hw := h.wide _ hr
 rw [List.length_range] at hw
 obtain ⟨j, hj, hjl, _⟩ := h.at_ i (by rw [← h.len]; exact hi) c c (by rw [List.getElem?_eq_getElem (by simp; omega)]; simp)
 rw [List.getElem?_eq_getElem hi, Option.bind_some, List.getElem?_eq_getElem hc] at hj
 rw [h.len, Option.some.inj hj]
 exact hjl
theorem done_same {σ : Type} [DecidableEq σ] {w : Nat} {A : Aut σ} {l : List σ} {rows : List (List Nat)} (h : Done id A.step (List.range w) l rows) {i : Nat} (hi : i < l.length) : Same w (mach rows (l.map A.acc)) A i l[i] := by
 refine Same.of (R := fun (i : Nat) (s : σ) => ∃ h : i < l.length, l[i] = s) ?_ ?_ ⟨hi, rfl⟩
 ·rintro j s ⟨hj, rfl⟩
  simp [mach, List.getD_eq_getElem?_getD, hj]
 ·rintro j s ⟨hj, rfl⟩ c hc
  obtain ⟨k, hk, hkl, e⟩ := h.at_ j hj c c (by rw [List.getElem?_eq_getElem (by simpa using hc)]; simp)
  have hr : j < rows.length := by rw [h.len]; exact hj
  have : (mach rows (l.map A.acc)).step j c = k := by
   rw [List.getElem?_eq_getElem hr, Option.bind_some] at hk
   simp [mach, List.getD_eq_getElem?_getD, hr, hk]
  exact ⟨by rw [this]; exact hkl, by simp only [this]; exact e⟩
/-! ### right words: no letter behind a pad -/
/-- pads c: the tapes on which a column has a pad; ok p c: none of the tapes p goes on. -/
def right {σ : Type} (A : Aut σ) (ok : Nat → Nat → Bool) (pads : Nat → Nat) : Aut (Option (σ × Nat)) where
 step := fun p c => match p with
  | some (q, e) => if ok e c then some (A.step q c, pads c) else none
  | none => none
 acc := fun p => match p with
  | some (q, _) => A.acc q
  | none => false
theorem right_bisim {σ τ : Type} {w : Nat} {A : Aut σ} {B : Aut τ} {ok : Nat → Nat → Bool} {pads : Nat → Nat} (R : σ → τ → Nat → Prop) (ha : ∀ s t e, R s t e → A.acc s = B.acc t)
  (hs : ∀ s t e, R s t e → ∀ c, c < w → ok e c = true → R (A.step s c) (B.step t c) (pads c)) {s : σ} {t : τ} {e : Nat} (h : R s t e) : Same w (right A ok pads) (right B ok pads) (some (s, e)) (some (t, e)) := by
 refine Same.of (R := fun p q => (p = none ∧ q = none) ∨ ∃ s t e, p = some (s, e) ∧ q = some (t, e) ∧ R s t e) ?_ ?_ (.inr ⟨s, t, e, rfl, rfl, h⟩)
 ·rintro p q (⟨rfl, rfl⟩ | ⟨s, t, e, rfl, rfl, h⟩)
  ·rfl
  ·exact ha s t e h
 ·rintro p q (⟨rfl, rfl⟩ | ⟨s, t, e, rfl, rfl, h⟩) c hc
  ·exact .inl ⟨rfl, rfl⟩
  ·show ((if ok e c then some (A.step s c, pads c) else none) = none ∧ (if ok e c then some (B.step t c, pads c) else none) = none) ∨ ∃ s' t' e', (if ok e c then some (A.step s c, pads c) else none) = some (s', e') ∧ (if ok e c then some (B.step t c, pads c) else none) = some (t', e') ∧ R s' t' e'
   cases hok : ok e c with
   | false => exact .inl ⟨rfl, rfl⟩
   | true => exact .inr ⟨_, _, _, rfl, rfl, hs s t e h c hc hok⟩
end Go.Proofs.YtnjdkhnepmmfgaaDoor.Tdy
namespace Go.Proofs.YtnjdkhnepmmfgaaDoor.GwI
set_option linter.unusedVariables false
set_option linter.unusedSimpArgs false
open Go.RowKit Go.Proofs.YtnjdkhnepmmfgaaDoorW.PrintWords Go.Proofs.YtnjdkhnepmmfgaaDoorW.PrintLast Go.Proofs.YtnjdkhnepmmfgaaDoorW.PrintMore Mp Kp Ky Fv Tdy
abbrev Pl := Int
def encP (k : Pl) : Value := .int .i64 k
def I64 (a : Int) : Prop := -9223372036854775808 ≤ a ∧ a ≤ 9223372036854775807
def Fit (k : Pl) : Prop := I64 k
def ints (l : List Nat) : List Int := l.map Int.ofNat
/-- The map's entries: what has been met, with its number. -/
def ents (l : List Pl) : List (Value × Value) := l.zipIdx.map fun p => (encP p.1, .int .i64 (p.2 : Int))
theorem info_int : (Tryd.prog.info? 3).map (fun i => (i.zero, i.size, i.bytes)) = some (some (.int .i64 0), 1, 8) := by kernel_rfl
theorem info_bool : (Tryd.prog.info? 4).map (fun i => (i.zero, i.size, i.bytes)) = some (some (.bool false), 1, 1) := by kernel_rfl
theorem info_ints : (Tryd.prog.info? 87).map (fun i => (i.zero, i.size, i.bytes)) = some (some (.slice none 0 0), 1, 24) := by kernel_rfl
theorem ents_snoc (l : List Pl) (k : Pl) : ents (l ++ [k]) = ents l ++ [(encP k, .int .i64 (l.length : Int))] := by simp [ents, List.zipIdx_append]
theorem ents_length (l : List Pl) : (ents l).length = l.length := by simp [ents]
theorem encP_inj {a b : Pl} (h : encP a = encP b) : a = b := by
 simpa [encP] using h
theorem ents_hit {l : List Pl} {k : Pl} {j : Nat} (h : find id k l = some j) : (encP k, Value.int .i64 (j : Int)) ∈ ents l := by
 obtain ⟨hj, e⟩ := find_some h
 refine List.mem_map.2 ⟨(k, j), ?_, rfl⟩
 rw [List.mem_zipIdx_iff_getElem?, List.getElem?_eq_getElem hj]
 exact congrArg some e
theorem ents_miss {l : List Pl} {k : Pl} (h : find id k l = none) : ∀ p ∈ ents l, p.1 ≠ encP k := by
 intro p hp he
 obtain ⟨⟨a, i⟩, ha, rfl⟩ := List.mem_map.1 hp
 have hm : a ∈ l := by
  rw [List.mem_zipIdx_iff_getElem?] at ha
  exact List.mem_of_getElem? ha
 exact find_none h a hm (encP_inj he)
theorem bfs_pre {key : Pl → Pl} {nxt : Pl → Nat → Pl} {cols : List Nat} : ∀ (f i : Nat) (l : List Pl) (rw_ : List (List Nat)) (l' : List Pl) (rows' : List (List Nat)), bfs key nxt cols 0 f i l rw_ = some (some (l', rows')) → ∃ m, l' = l ++ m
 | 0, _, _, _, _, _, h => by simp [bfs] at h
 | f + 1, i, l, rw_, l', rows', h => by
  unfold bfs at h
  split at h
  ·rw [if_neg (by omega)] at h
   obtain ⟨m, hm⟩ := bfs_pre f _ _ _ _ _ h
   obtain ⟨m', hm'⟩ := row_prefix (key := key) (nxt := nxt) (s := l[i]) cols l
   exact ⟨m' ++ m, by rw [hm, hm', List.append_assoc]⟩
  ·simp only [Option.some.injEq, Prod.mk.injEq] at h
   exact ⟨[], by rw [← h.1]; simp⟩
/-- What stands in memory between two rounds; x: the block of the row that is being made. -/
structure G (w0 : World) (tapes : Nat) (bs : List Bool) (em : List (Value × Value)) (li : List Pl) (rws : List (List Nat)) (x : Option Nat) (vL vA vN : Value) (W : World) : Prop where
 b1 : W.heap[w0.heap.size]? = some (.cells #[.int .i64 0, .int .i64 0, .slice none 0 0, .slice none 0 0] 66 (0, 0))
 b2 : W.heap[w0.heap.size + 1]? = some (.cells #[.int .i64 tapes, .int .i64 0, vA, vN] 66 (0, 0))
 acc : Kd.R Kd.bool 4 W w0.heap.size (fun _ => True) vA bs
 nxt : Kd.R (Kd.slice 3 (Kd.int .i64)) 87 W w0.heap.size (fun k => (True ∧ some k ≠ vL.ownBlock) ∧ some k ≠ x) vN (rws.map ints)
 map : FMap Tryd.prog 3 W (w0.heap.size + 2) em
 lst : Kd.R (Kd.int .i64) 3 W w0.heap.size (fun k => True ∧ some k ≠ x) vL li
 bel : Below w0.heap.size w0 W
section
variable {w0 : World} {tapes : Nat} {bs : List Bool} {em : List (Value × Value)} {li : List Pl} {rws : List (List Nat)} {x : Option Nat} {vL vA vN : Value} {W W' : World}
theorem G.lt (h : G w0 tapes bs em li rws x vL vA vN W) : w0.heap.size + 2 < W.heap.size := h.map.lt
/-- A call, a new block, a draw. -/
theorem G.step (h : G w0 tapes bs em li rws x vL vA vN W) (hb : Below W.heap.size W W') : G w0 tapes bs em li rws x vL vA vN W' :=
 ⟨blk_below h.b1 hb, blk_below h.b2 hb, Kd.R_below h.acc hb, Kd.R_below h.nxt hb, map_keep h.map (Keep.below hb) (by simp), Kd.R_below h.lst hb, below_step h.bel hb⟩
/-- An entry is put into the map. -/
theorem G.put (h : G w0 tapes bs em li rws x vL vA vN W) {em' : List (Value × Value)} (hg : W.grownBy W' (some (w0.heap.size + 2))) (hF : FMap Tryd.prog 3 W' (w0.heap.size + 2) em') : G w0 tapes bs em' li rws x vL vA vN W' := by
 have hk := Keep.grown hg
 have hlt := h.lt
 exact ⟨hk.obj h.b1 (by simp), hk.obj h.b2 (by simp), R_off h.acc hk (Off.map h.map _), R_off h.nxt hk (Off.map h.map _), hF, R_off h.lst hk (Off.map h.map _), h.bel.grown hg (by omega) (fun k hk => by cases hk; omega)⟩
end
/-- .. and while a row is made. -/
structure H (w0 : World) (tapes : Nat) (bs : List Bool) (em : List (Value × Value)) (li : List Pl) (rws : List (List Nat)) (r : List Nat) (vr vL vA vN : Value) (W : World) : Prop where
 g : G w0 tapes bs em li rws vr.ownBlock vL vA vN W
 row : Kd.R (Kd.int .i64) 3 W w0.heap.size (fun k => True ∧ some k ≠ vL.ownBlock) vr (ints r)
section
variable {w0 : World} {tapes : Nat} {bs : List Bool} {em : List (Value × Value)} {li : List Pl} {rws : List (List Nat)} {r : List Nat} {vr vL vA vN : Value} {W W' : World}
theorem H.step (h : H w0 tapes bs em li rws r vr vL vA vN W) (hb : Below W.heap.size W W') : H w0 tapes bs em li rws r vr vL vA vN W' := ⟨h.g.step hb, Kd.R_below h.row hb⟩
theorem H.put (h : H w0 tapes bs em li rws r vr vL vA vN W) {em' : List (Value × Value)} (hg : W.grownBy W' (some (w0.heap.size + 2))) (hF : FMap Tryd.prog 3 W' (w0.heap.size + 2) em') : H w0 tapes bs em' li rws r vr vL vA vN W' :=
 ⟨h.g.put hg hF, R_off h.row (Keep.grown hg) (Off.map h.g.map _)⟩
theorem H.push (h : H w0 tapes bs em li rws r vr vL vA vN W) {v1 : Value} {p : Pl} (hg : W.grownBy W' vL.ownBlock) (hat : v1.ownBlock = vL.ownBlock ∨ ∃ b, v1.ownBlock = some b ∧ W.heap.size ≤ b) (hR : Kd.R (Kd.int .i64) 3 W' w0.heap.size (fun k => True ∧ some k ≠ vr.ownBlock) v1 (li ++ [p])) (hb : Below w0.heap.size w0 W') : H w0 tapes bs em (li ++ [p]) rws r vr v1 vA vN W' := by
 have hk := Keep.grown hg
 have o : ∀ E : List Nat, (∀ q ∈ E, q ≠ 3) → Off W vL.ownBlock E := fun E hE => Off.row h.g.lst hE
 exact ⟨⟨hk.obj h.g.b1 (off_ne h.g.b1 (o _ (by decide))), hk.obj h.g.b2 (off_ne h.g.b2 (o _ (by decide))), R_off h.g.acc hk (o _ (by decide)),
  Kd.R_mono (Kd.R_after (Kd.R_mono h.g.nxt (ok' := fun k => (True ∧ some k ≠ vr.ownBlock) ∧ some k ≠ vL.ownBlock) (fun k hk => ⟨⟨trivial, hk.2⟩, hk.1.2⟩)) hg hat) (fun k hk => ⟨⟨trivial, hk.2⟩, hk.1.2⟩),
  map_keep h.g.map hk (map_row_ne h.g.map h.g.lst), hR, hb⟩, Kd.R_after h.row hg hat⟩
theorem H.more (h : H w0 tapes bs em li rws r vr vL vA vN W) {v1 : Value} {j : Nat} (hg : W.grownBy W' vr.ownBlock) (hat : v1.ownBlock = vr.ownBlock ∨ ∃ b, v1.ownBlock = some b ∧ W.heap.size ≤ b) (hR : Kd.R (Kd.int .i64) 3 W' w0.heap.size (fun k => True ∧ some k ≠ vL.ownBlock) v1 (ints r ++ [(j : Int)])) (hb : Below w0.heap.size w0 W') : H w0 tapes bs em li rws (r ++ [j]) v1 vL vA vN W' := by
 have hk := Keep.grown hg
 have o : ∀ E : List Nat, (∀ q ∈ E, q ≠ 3) → Off W vr.ownBlock E := fun E hE => Off.row h.row hE
 exact ⟨⟨hk.obj h.g.b1 (off_ne h.g.b1 (o _ (by decide))), hk.obj h.g.b2 (off_ne h.g.b2 (o _ (by decide))), R_off h.g.acc hk (o _ (by decide)), Kd.R_after h.g.nxt hg hat, map_keep h.g.map hk (map_row_ne h.g.map h.row), Kd.R_after h.g.lst hg hat, hb⟩, by simpa [ints] using hR⟩
/-- The state's mark is put behind the others. -/
theorem H.acc (h : H w0 tapes bs em li rws r vr vL vA vN W) {v1 : Value} {bs' : List Bool} (hg : W.grownBy W' vA.ownBlock) (hR : Kd.R Kd.bool 4 W' w0.heap.size (fun _ => True) v1 bs') (hb : Below w0.heap.size w0 W') :
  W'.heap[w0.heap.size + 1]? = some (.cells #[.int .i64 tapes, .int .i64 0, vA, vN] 66 (0, 0)) ∧ H w0 tapes bs' em li rws r vr vL v1 vN (W'.setCell ⟨w0.heap.size + 1, 2, none⟩ v1) := by
 have hk := Keep.grown hg
 have o : ∀ E : List Nat, (∀ q ∈ E, q ≠ 4) → Off W vA.ownBlock E := fun E hE => Off.row h.g.acc hE
 have b2 := hk.obj h.g.b2 (off_ne h.g.b2 (o _ (by decide)))
 refine ⟨b2, ?_⟩
 have hs := Keep.set W' ⟨w0.heap.size + 1, 2, none⟩ v1
 have p : ∀ E : List Nat, (∀ q ∈ E, q ≠ 66) → Off W' (some (w0.heap.size + 1)) E := fun E hE => Off.cells b2 hE
 have m := map_keep h.g.map hk (map_row_ne h.g.map h.g.acc)
 exact ⟨⟨hs.obj (hk.obj h.g.b1 (off_ne h.g.b1 (o _ (by decide)))) (by simp), blk_put b2 2 v1 rfl, R_off hR hs (p _ (by decide)), R_off (R_off h.g.nxt hk (o _ (by decide))) hs (p _ (by decide)), map_keep m hs (by simp), R_off (R_off h.g.lst hk (o _ (by decide))) hs (p _ (by decide)), hb.setCell (by simp) _⟩,
  R_off (R_off h.row hk (o _ (by decide))) hs (p _ (by decide))⟩
/-- The row is put behind the others. -/
theorem H.nxt (h : H w0 tapes bs em li rws r vr vL vA vN W) {v1 : Value} (hg : W.grownBy W' vN.ownBlock) (hR : Kd.R (Kd.slice 3 (Kd.int .i64)) 87 W' w0.heap.size (fun k => True ∧ some k ≠ vL.ownBlock) v1 (rws.map ints ++ [ints r])) (hb : Below w0.heap.size w0 W') :
  W'.heap[w0.heap.size + 1]? = some (.cells #[.int .i64 tapes, .int .i64 0, vA, vN] 66 (0, 0)) ∧ G w0 tapes bs em li (rws ++ [r]) none vL vA v1 (W'.setCell ⟨w0.heap.size + 1, 3, none⟩ v1) := by
 have hk := Keep.grown hg
 have o : ∀ E : List Nat, (∀ q ∈ E, q ≠ 87) → Off W vN.ownBlock E := fun E hE => Off.row h.g.nxt hE
 have b2 := hk.obj h.g.b2 (off_ne h.g.b2 (o _ (by decide)))
 refine ⟨b2, ?_⟩
 have hs := Keep.set W' ⟨w0.heap.size + 1, 3, none⟩ v1
 have p : ∀ E : List Nat, (∀ q ∈ E, q ≠ 66) → Off W' (some (w0.heap.size + 1)) E := fun E hE => Off.cells b2 hE
 have m := map_keep h.g.map hk (map_row_ne h.g.map h.g.nxt)
 exact ⟨hs.obj (hk.obj h.g.b1 (off_ne h.g.b1 (o _ (by decide)))) (by simp), blk_put b2 3 v1 rfl, R_off (R_off h.g.acc hk (o _ (by decide))) hs (p _ (by decide)), Kd.R_mono (R_off (by simpa using hR) hs (p _ (by decide))) (fun _ hk => ⟨hk, by simp⟩), map_keep m hs (by simp), Kd.R_mono (R_off (R_off h.g.lst hk (o _ (by decide))) hs (p _ (by decide))) (fun _ hk => ⟨trivial, by simp⟩), hb.setCell (by simp) _⟩
end
theorem take_row {nxt : Pl → Nat → Pl} {cs : List Nat} {li : List Pl} {i : Nat} (h : i < li.length) : (row id nxt li[i] cs li).1.take (i + 1) = li.take i ++ [li[i]] ∧ i + 1 ≤ (row id nxt li[i] cs li).1.length := by
 obtain ⟨m, hm⟩ := row_prefix (key := id) (nxt := nxt) (s := li[i]) cs li
 rw [hm]
 refine ⟨?_, by rw [List.length_append]; omega⟩
 rw [List.take_append_of_le_length (by omega), List.take_succ_eq_append_getElem h]
set_option maxHeartbeats 8000000 in
set_option maxRecDepth 100000 in
theorem grow (tapes : Nat) (start : Pl) (fa fx : Value) (acc : Pl → Bool) (nxt : Pl → Nat → Pl) (w : World) (wd : Nat) (hwd2 : wd ≤ 30)
  (hwd : ∀ W, Calls Tryd.prog 94 #[.int .i64 tapes] W fun e W' => e = .returned (.int .i64 wd) ∧ Below W.heap.size W W')
  (Q : Pl → Prop) (hQ0 : Q start) (hQf : ∀ k, Q k → Fit k) (hQn : ∀ k c, Q k → c < wd → Q (nxt k c))
  (hacc : ∀ k, Q k → Answers Tryd.prog w fa #[encP k] (.bool (acc k))) (hnxt : ∀ k c, Q k → c < wd → Answers Tryd.prog w fx #[encP k, .int .i64 (c : Int)] (encP (nxt k c)))
  (f : Nat) (l : List Pl) (rows : List (List Nat)) (hr : bfs id nxt (List.range wd) 0 f 0 [start] [] = some (some (l, rows))) (hl : l.length ≤ 1000000) :
  Calls Tryd.prog 116 #[.int .i64 tapes, encP start, .int .i64 0, fa, fx] w fun e w' => ∃ vA vN, e = .returned (.tuple #[.agg #[.int .i64 tapes, .int .i64 0, vA, vN], .bool true]) ∧
   Kd.R Kd.bool 4 w' w.heap.size (fun _ => True) vA (l.map acc) ∧ Kd.R (Kd.slice 3 (Kd.int .i64)) 87 w' w.heap.size (fun _ => True) vN (rows.map ints) ∧ Below w.heap.size w w' := by
 have hmm := @run_makeMap Tryd.prog
 have hk0 := int_key (hQf _ hQ0)
 unfold encP
 go_enter Tryd.func116, Tryd.ntmps116
 go_wp2_with ((with_reducible refine gate_insert rfl ?_); (refine at_put (b := w.heap.size + 2) (es := []) ?hF int_law rfl _ _ _ 147 3 (Or.inr rfl) Tryd.underlying147 (by decide) rfl _ (.int .i64 0) hk0 rfl rfl (fun p hp => by cases hp) ?hKk; (case hF => exact FMap.of_empty (blk_at _ _ _ (by simp))); intro w1 hF hg; have hK := Keep.grown hg; have b1 : w1.heap[w.heap.size]? = some (.cells #[.int .i64 0, .int .i64 0, .slice none 0 0, .slice none 0 0] 66 (0, 0)) := hK.obj (blk_alloc (blk_alloc (blk_new _ _) _) _) (by simp); have b2 : w1.heap[w.heap.size + 1]? = some (.cells #[.int .i64 tapes, .int .i64 0, .slice none 0 0, .slice none 0 0] 66 (0, 0)) := hK.obj (blk_alloc (blk_at _ _ _ (by simp)) _) (by simp)))
 have hbe : Below w.heap.size w w1 := (below_alloc (below_alloc (below_alloc (Below.refl _ _) _) _) _).grown hg (by simp <;> omega) (fun k hk => by cases hk; omega)
 have hlt1 : w.heap.size + 2 < w1.heap.size := hF.lt
 have g1 : G w tapes [] (ents [start]) [start] [] none (.slice (some ⟨w1.heap.size, 0, none⟩) 1 1) (.slice none 0 0) (.slice none 0 0) (w1.alloc (.cells #[.int .i64 start] 3)) := by
  refine ⟨blk_alloc b1 _, blk_alloc b2 _, Kd.R_nil _ _ _ _ _, Kd.R_nil _ _ _ _ _, map_keep hF (Keep.below (below_alloc (Below.refl _ _) _)) (by simp), ?_, below_alloc hbe _⟩
  exact R_one (Kd.int .i64) _ w1 _ (by omega) (okp := fun _ => False) (cs := [.int .i64 start]) rfl (fun _ h => h.elim) ⟨trivial, by simp⟩
 clear hF hg hK b1 b2 hbe
 go_loopg [14, 15] f (fun kf v14 v15 wr => ∃ (i : Nat) (li : List Pl) (rws : List (List Nat)) (AL : Option Addr) (cL : Nat) (vA vN : Value), v14 = .slice AL li.length cL ∧ v15 = .int .i64 (i : Int) ∧ Aside0 (bfs id nxt (List.range wd) 0 kf i li rws = some (some (l, rows))) ∧ Aside0 (rws.length = i) ∧ i ≤ li.length ∧ Aside0 (∀ k ∈ li, Q k) ∧ Aside0 (G w tapes ((li.take i).map acc) (ents li) li rws none (.slice AL li.length cL) vA vN wr))
 case atStart => exact ⟨0, [start], [], _, _, _, _, rfl, rfl, ⟨hr⟩, ⟨rfl⟩, Nat.zero_le _, ⟨fun k hk => by rw [List.mem_singleton.1 hk]; exact hQ0⟩, ⟨g1⟩⟩
 case round =>
  clear g1
  obtain ⟨wo, rfl⟩ : ∃ wo : World, wo = wr := ⟨_, rfl⟩
  obtain ⟨i, li, rws, AL, cL, vA, vN, rfl, rfl, H, hrl, hil, hQl, g⟩ := hrel
  have hli : li.length ≤ 1000000 := by obtain ⟨m, hm⟩ := bfs_pre _ _ _ _ _ _ H.out; rw [hm, List.length_append] at hl; omega
  by_cases hlt : i < li.length
  ·cases gk with
   | zero => exact absurd H.out (by simp [bfs])
   | succ kf =>
   have H1 := H.out
   unfold bfs at H1
   rw [dif_pos hlt, if_neg (by omega)] at H1
   have HH := Aside0.mk H1
   clear H1 H
   obtain ⟨rl, _, hC⟩ := Kd.R_reads' g.out.lst
   obtain ⟨ad, rfl, k0⟩ := Kd.at_int hC (i : Int) (by omega) (by omega)
   have ek : rd li (i : Int) = li[i] := by unfold rd; simp [List.getD, List.getElem?_eq_getElem hlt]
   rw [ek, Int.toNat_natCast] at k0
   clear ek
   have hQk : Aside0 (Q li[i]) := ⟨hQl.out _ (List.getElem_mem hlt)⟩
   have htr := Aside0.mk (take_row (nxt := nxt) (cs := List.range wd) hlt)
   clear hC rl
   generalize hk : li[i] = k at *
   have HK := Aside0.mk hk
   clear hk
   have hlt1 : ((i : Int) < (li.length : Int)) = True := eq_true (by omega)
   have h0i : (0 ≤ (i : Int)) = True := eq_true (by omega)
   go_wp2_with fail
   have h0 : H w tapes ((li.take i).map acc) (ents li) li rws [] (.slice none 0 0) (.slice (some ad) li.length cL) vA vN wo := ⟨g.out, Kd.R_nil _ _ _ _ _⟩
   clear k0 g
   go_loopg [14, 17, 18] wd (fun kq v14 v17 v18 wq => ∃ (c : Nat) (lj : List Pl) (r : List Nat) (A' : Option Addr) (c' : Nat) (Ar : Option Addr) (cr : Nat), v14 = .slice A' lj.length c' ∧ v17 = .slice Ar r.length cr ∧ v18 = .int .i64 (c : Int) ∧ c ≤ wd ∧ Aside0 (kq = wd - c) ∧ Aside0 (r.length = c) ∧ Aside0 ((row id nxt k ((List.range wd).drop c) lj).1 = (row id nxt k (List.range wd) li).1 ∧ r ++ (row id nxt k ((List.range wd).drop c) lj).2 = (row id nxt k (List.range wd) li).2) ∧ Aside0 (∀ k ∈ lj, Q k) ∧ Aside0 (H w tapes ((li.take i).map acc) (ents lj) lj rws r (.slice Ar r.length cr) (.slice A' lj.length c') vA vN wq))
   case atStart => exact ⟨0, li, [], _, _, none, 0, rfl, rfl, rfl, Nat.zero_le _, ⟨by simp⟩, ⟨rfl⟩, ⟨by simp⟩, ⟨hQl.out⟩, ⟨h0⟩⟩
   case round =>
    clear h0
    obtain ⟨c, lj, r, A', c', Ar, cr, rfl, rfl, rfl, hcw, hkq, hrc, HR, hQj, h⟩ := hrel
    replace h := h.out
    by_cases hc : c < wd
    ·have hd : (List.range wd).drop c = c :: (List.range wd).drop (c + 1) := by
      rw [List.drop_eq_getElem_cons (by simpa using hc)]; simp
     have HR1 := HR.out
     rw [hd] at HR1
     clear HR hd
     obtain ⟨f2, fn2, cap2, rfl, hfn, hnm, hbd, hcall⟩ := hnxt k c hQk.out hc
     have hQt := hQn k c hQk.out hc
     have hlj : lj.length ≤ 1000000 ∧ (find id (nxt k c) lj = none → lj.length + 1 ≤ 1000000) := by
      obtain ⟨m, hm⟩ := bfs_pre _ _ _ _ _ _ HH.out
      rw [← HR1.1] at hm
      refine ⟨?_, fun hn => ?_⟩
      ·obtain ⟨m', hm'⟩ := row_prefix (key := id) (nxt := nxt) (s := k) (c :: (List.range wd).drop (c + 1)) lj
       rw [hm, hm', List.length_append, List.length_append] at hl
       omega
      ·rw [row_none hn] at hm
       obtain ⟨m', hm'⟩ := row_prefix (key := id) (nxt := nxt) (s := k) ((List.range wd).drop (c + 1)) (lj ++ [nxt k c])
       rw [hm, hm', List.length_append, List.length_append, List.length_append, List.length_singleton] at hl
       omega
     have hlt2 : ((c : Int) < (wd : Int)) = True := eq_true (by omega)
     cases hf : find id (nxt k c) lj with
     | some j =>
      rw [row_some hf] at HR1
      have HR := Aside0.mk HR1
      clear HR1
      have hjm := ents_hit hf
      have hjl := (find_some hf).1
      clear hf
      generalize nxt k c = tt at *
      have hlj1 := hlj.1
      clear hlj
      unfold encP at hcall hjm
      go_wp2_with (first
       | (go_at_call 94; (with_reducible refine (hwd _).mono ?_); rintro e w2 ⟨rfl, hb2⟩; have h2 := h.step hb2)
       | ((with_reducible refine gate_dst (N := 48) rfl ?_); (refine goesV_ (some 48) rfl rfl hfn hnm hbd #[.int .i64 k, .int .i64 (c : Int)] rfl rfl (by simp only [List.map_toArray, List.map_cons, List.map_nil]; rfl) ?_; (with_reducible refine (hcall _ h2.g.bel).mono ?_); rintro e w3 ⟨rfl, hb3⟩; refine ⟨_, rfl, ?_⟩; have h4 := h2.step hb3))
       | ((with_reducible refine gate_dst (N := 52) rfl ?_); (refine at_hit h4.g.map int_law rfl _ _ 147 3 rfl Tryd.underlying147 (zero_int _) rfl _ _ rfl hjm ?_))
       | ((with_reducible refine gate_builtin (b := .append) (xs := #[.tmp 75, .tmp 77]) rfl ?_); at_builtin; (refine R_append' (Kd.int .i64) (w0 := w) w.heap.size rfl (.tmp 75) (.tmp 77) 87 3 (.int .i64 0) 8 rfl Tryd.underlying87 info_int rfl (by decide) (by decide) (.slice Ar r.length cr) (ints r) (j : Int) [.int .i64 (j : Int)] (fun k => True ∧ some k ≠ (Value.slice A' lj.length c').ownBlock) (fun _ => False) _ (by simp) rfl rfl rfl (fun _ h => h.elim) (fun k hk => ⟨trivial, Kd.fresh_ok h4.g.lst k hk⟩) h4.row h4.g.bel (Below.size h4.g.bel) (by have := hrc.out; simp [ints]; omega) ?_; intro v1 w5 hR5 hb5 hg5 hat5; obtain ⟨A1, c1, hv1⟩ := Kd.R_slice hR5; have ev : (ints r ++ [(j : Int)]).length = (r ++ [j]).length := (by simp [ints]); rw [ev] at hv1; subst hv1; have h5 := h4.more hg5 hat5 hR5 hb5)))
      go_roundg (wd - (c + 1))
      case measure => have := hkq.out; omega
      case rel => exact ⟨c + 1, lj, r ++ [j], A', c', A1, c1, rfl, (by simp), (by go_num), by omega, ⟨rfl⟩, ⟨by have := hrc.out; simp; omega⟩, ⟨HR.out.1, by rw [List.append_assoc]; exact HR.out.2⟩, hQj, ⟨h5⟩⟩
     | none =>
      rw [row_none hf] at HR1
      have HR := Aside0.mk HR1
      clear HR1
      have hmiss := ents_miss hf
      have hlj1 := hlj.2 hf
      clear hf hlj
      generalize nxt k c = tt at *
      have hkt := int_key (hQf _ hQt)
      unfold encP at hcall
      go_wp2_with (first
       | (go_at_call 94; (with_reducible refine (hwd _).mono ?_); rintro e w2 ⟨rfl, hb2⟩; have h2 := h.step hb2)
       | ((with_reducible refine gate_dst (N := 48) rfl ?_); (refine goesV_ (some 48) rfl rfl hfn hnm hbd #[.int .i64 k, .int .i64 (c : Int)] rfl rfl (by simp only [List.map_toArray, List.map_cons, List.map_nil]; rfl) ?_; (with_reducible refine (hcall _ h2.g.bel).mono ?_); rintro e w3 ⟨rfl, hb3⟩; refine ⟨_, rfl, ?_⟩; have h4 := h2.step hb3))
       | ((with_reducible refine gate_dst (N := 52) rfl ?_); refine at_miss h4.g.map int_law rfl _ _ 147 3 rfl Tryd.underlying147 (zero_int _) rfl _ hkt rfl hmiss ?_)
       | (at_mapUpdate; refine at_put h4.g.map int_law rfl _ _ _ 147 3 (Or.inl rfl) Tryd.underlying147 (by rw [ents_length]; unfold maxLen; omega) rfl _ (.int .i64 (lj.length : Int)) hkt rfl rfl hmiss ?_; intro w5 hF5 hg5; have hF6 : FMap Tryd.prog 3 w5 (w.heap.size + 2) (ents (lj ++ [tt])) := (by rw [ents_snoc]; exact hF5); clear hF5; have h5 := h4.put hg5 hF6)
       | ((with_reducible refine gate_builtin (b := .append) (xs := #[.tmp 62, .tmp 64]) rfl ?_); at_builtin; refine R_append' (Kd.int .i64) (w0 := w) w.heap.size rfl (.tmp 62) (.tmp 64) 87 3 (.int .i64 0) 8 rfl Tryd.underlying87 info_int rfl (by decide) (by decide) (.slice A' lj.length c') lj tt [.int .i64 tt] (fun k => True ∧ some k ≠ (Value.slice Ar r.length cr).ownBlock) (fun _ => False) _ (by simp) rfl rfl rfl (fun _ h => h.elim) (fun k hk => ⟨trivial, Kd.fresh_ok h5.row k hk⟩) h5.g.lst h5.g.bel (Below.size h5.g.bel) (by omega) ?_; intro v6 w6 hR6 hb6 hg6 hat6; obtain ⟨A6, c6, hv6⟩ := Kd.R_slice hR6; subst hv6; have h6 := h5.push hg6 hat6 hR6 hb6; rw [List.length_append, List.length_singleton])
       | ((with_reducible refine gate_builtin (b := .append) (xs := #[.tmp 75, .tmp 77]) rfl ?_); at_builtin; refine R_append' (Kd.int .i64) (w0 := w) w.heap.size rfl (.tmp 75) (.tmp 77) 87 3 (.int .i64 0) 8 rfl Tryd.underlying87 info_int rfl (by decide) (by decide) (.slice Ar r.length cr) (ints r) (lj.length : Int) [.int .i64 (lj.length : Int)] (fun k => True ∧ some k ≠ (Value.slice A6 (lj ++ [tt]).length c6).ownBlock) (fun _ => False) _ (by simp) rfl rfl rfl (fun _ h => h.elim) (fun k hk => ⟨trivial, Kd.fresh_ok h6.g.lst k hk⟩) h6.row h6.g.bel (Below.size h6.g.bel) (by have := hrc.out; simp [ints]; omega) ?_; intro v1 w7 hR7 hb7 hg7 hat7; obtain ⟨A1, c1, hv1⟩ := Kd.R_slice hR7; have ev : (ints r ++ [(lj.length : Int)]).length = (r ++ [lj.length]).length := (by simp [ints]); rw [ev] at hv1; subst hv1; have h7 := h6.more hg7 hat7 hR7 hb7))
      go_roundg (wd - (c + 1))
      case measure => have := hkq.out; omega
      case rel => exact ⟨c + 1, lj ++ [tt], r ++ [lj.length], A6, c6, A1, c1, (by simp), (by simp), (by go_num), by omega, ⟨rfl⟩, ⟨by have := hrc.out; simp; omega⟩, ⟨HR.out.1, by rw [List.append_assoc]; exact HR.out.2⟩, ⟨fun k hk => (List.mem_append.1 hk).elim (hQj.out k) (fun h => by rw [List.mem_singleton.1 h]; exact hQt)⟩, ⟨h7⟩⟩
    ·have hcc : c = wd := by omega
     subst hcc
     have HR1 := HR.out
     simp only [List.drop_of_length_le (Nat.le_of_eq (List.length_range (n := c))), row, List.append_nil] at HR1
     have HR2 := Aside0.mk HR1
     clear HR1 HR
     obtain ⟨f2, fn2, cap2, rfl, hfn, hnm, hbd, hcall⟩ := hacc k hQk.out
     unfold encP at hcall
     have hlt2 : ((c : Int) < (c : Int)) = False := eq_false (by omega)
     go_wp2_with (go_at_call 94; (with_reducible refine (hwd _).mono ?_); rintro e w2 ⟨rfl, hb2⟩; have h2 := h.step hb2)
     refine start_ (n := 9) (S := fun w' => w'.cell? ⟨w.heap.size + 1, 2, none⟩ = some vA) (ds := [8]) (.replicate 9 false) (by kernel_rfl) rfl rfl ((blk_cell h2.g.b2 2).trans rfl) (fun hHeld => ?_)
     have h3 := h2.step (below_drew1 (Below.refl _ _))
     refine pure_ (i := 0) (N := some 79) (v := ?_) (a' := ?_) (zb 9 1) rfl rfl (by kernel_rfl) (fun _ _ _ h => h) (Or.inl ⟨by rfl, ?_⟩) ?_ ?_
     rotate_left
     ·intro w'
      go_simp
      with_reducible rfl
     rotate_left
     ·simp only [Act.put, Za, Zb, Zc, i64_w, i32_w]
      rfl
     refine pure_ (i := 2) (N := some 81) (v := ?_) (a' := ?_) (zb 9 5) rfl rfl (by kernel_rfl) (fun _ _ _ h => h) (Or.inl ⟨by rfl, ?_⟩) ?_ ?_
     rotate_left
     ·intro w'
      go_simp
      with_reducible rfl
     rotate_left
     ·simp only [Act.put, Za, Zb, Zc, i64_w, i32_w]
      rfl
     refine pure_ (i := 3) (N := some 82) (v := ?_) (a' := ?_) (zb 9 13) rfl rfl (by kernel_rfl) (fun _ _ _ h => h) (Or.inl ⟨by rfl, ?_⟩) ?_ ?_
     rotate_left
     ·intro w'
      go_simp
      with_reducible rfl
     rotate_left
     ·simp only [Act.put, Za, Zb, Zc, i64_w, i32_w]
      rfl
     refine take_ (i := 1) (N := some 80) (v := ?_) (a' := ?_) (zb 9 15) rfl rfl (by kernel_rfl) (fun _ _ _ h => h) (Or.inl ⟨by rfl, ?_⟩) hHeld ?_ ?_
     rotate_left
     ·rintro w' s0
      go_simp
      with_reducible rfl
     rotate_left
     ·simp only [Act.put, Za, Zb, Zc, i64_w, i32_w]
      rfl
     refine one_ (i := 4) (N := some 83) (zb 9 31) rfl rfl (by kernel_rfl) (by decide) (fun K hK => ?_)
     refine goesVs_ hfn hnm hbd #[.int .i64 k] (by rfl) rfl rfl rfl (by simp only [List.map_toArray, List.map_cons, List.map_nil]; rfl) ?_
     with_reducible refine (hcall _ h3.g.bel).mono ?_
     rintro e w4 ⟨rfl, hb4⟩
     refine ⟨_, rfl, ?_⟩
     have h4 := h3.step hb4
     refine hK.out _ _ ((blk_cell h4.g.b2 2).trans rfl) (fun hHeld => ?_)
     clear hK K
     refine norm_ (a' := ?_) ?_ ?_
     rotate_left
     ·show Act.put _ (some 83) _ = _
      simp only [Act.put, Za, Zb, Zc, i64_w, i32_w]
      rfl
     refine one_ (i := 5) (N := some 84) (zb 9 63) rfl rfl (by kernel_rfl) (by decide) (fun K hK => ?_)
     refine value_ (w1 := w4.alloc (.cells #[.bool (acc k)] 4)) (v := .slice (some ⟨w4.heap.size, 0, none⟩) 1 1) (by rfl) rfl (by first | (go_simp; done) | (go_simp; rfl)) ?_
     have h5 := h4.step (below_alloc (Below.refl _ _) (.cells #[.bool (acc k)] 4))
     refine hK.out _ _ ((blk_cell h5.g.b2 2).trans rfl) (fun hHeld => ?_)
     clear hK K
     refine norm_ (a' := ?_) ?_ ?_
     rotate_left
     ·show Act.put _ (some 84) _ = _
      simp only [Act.put, Za, Zb, Zc, i64_w, i32_w]
      rfl
     refine one_ (i := 6) (N := some 85) (zb 9 127) rfl rfl (by kernel_rfl) (by decide) (fun K hK => ?_)
     refine Kd.R_append_step Kd.bool (w0 := w) w.heap.size (by rfl) (.tmp 80) (.tmp 84) 22 4 (.bool false) 1 rfl Tryd.underlying22 info_bool rfl (by decide) (by decide) vA ((li.take i).map acc) (acc k) [.bool (acc k)] (fun _ => True) (fun _ => False) rfl rfl rfl (fun _ h => h.elim) (fun _ _ => trivial) h4.g.acc h4.g.bel (Below.size h4.g.bel) (by simp <;> omega) ?_
     intro v6 w6 hR6 hb6 hg6 hat6
     obtain ⟨A6, c6, hv6⟩ := Kd.R_slice hR6
     subst hv6
     obtain ⟨b26, h6⟩ := h4.acc hg6 hR6 hb6
     refine hK.out _ _ ((blk_cell b26 2).trans rfl) (fun hHeld => ?_)
     clear hK K
     refine norm_ (a' := ?_) ?_ ?_
     rotate_left
     ·show Act.put _ (some 85) _ = _
      simp only [Act.put, Za, Zb, Zc, i64_w, i32_w]
      rfl
     refine pure_ (i := 7) (N := some 86) (v := ?_) (a' := ?_) (zb 9 255) rfl rfl (by kernel_rfl) (fun _ _ _ h => h) (Or.inl ⟨by rfl, ?_⟩) ?_ ?_
     rotate_left
     ·intro w'
      go_simp
      with_reducible rfl
     rotate_left
     ·simp only [Act.put, Za, Zb, Zc, i64_w, i32_w]
      rfl
     refine last_ (i := 8) (N := none) (zb 9 511) rfl rfl (by kernel_rfl) (by decide) (fun K hK => ?_)
     have hf6 : w6.frozen? ⟨w.heap.size + 1, 2, none⟩ = false := blk_frozen b26 2
     have hc6 : w6.cell? ⟨w.heap.size + 1, 2, none⟩ = some vA := (blk_cell b26 2).trans rfl
     refine skip_ (w1 := w6.setCell ⟨w.heap.size + 1, 2, none⟩ (.slice A6 (((li.take i).map acc) ++ [acc k]).length c6)) (by rfl) rfl (by first | (go_simp; done) | (go_simp; rfl)) ?_
     refine hK.out _ _ ?_
     refine done_ (by kernel_rfl) ?_
     clear h h2 h3 h4 h5 hf6 hc6 b26 hR6 hg6 hb6 hHeld
     generalize w6.setCell ⟨w.heap.size + 1, 2, none⟩ (.slice A6 (((li.take i).map acc) ++ [acc k]).length c6) = w7 at h6 ⊢
     have h7 := h6
     have c73 : w7.cell? ⟨w.heap.size + 1, 3, none⟩ = some vN := (blk_cell h7.g.b2 3).trans rfl
     go_wp2_with ((with_reducible refine gate_builtin (b := .append) (xs := #[.tmp 88, .tmp 90]) rfl ?_); at_builtin; refine R_append' (Kd.slice 3 (Kd.int .i64)) (w0 := w) w.heap.size rfl (.tmp 88) (.tmp 90) 64 87 (.slice none 0 0) 24 rfl Tryd.underlying64 info_ints rfl (by decide) (by decide) vN (rws.map ints) (ints r) [.slice Ar r.length cr] (fun j => True ∧ some j ≠ (Value.slice A' lj.length c').ownBlock) (fun j => (True ∧ some j ≠ (Value.slice A' lj.length c').ownBlock) ∧ some j ≠ vN.ownBlock) _ (by simp) rfl rfl (Kd.M_row (R_typed h7.row h7.g.nxt (by decide))) (fun _ hk => hk) (fun k hk => ⟨trivial, Kd.fresh_ok h7.g.lst k hk⟩) (Kd.R_mono h7.g.nxt (fun _ hk => hk.1)) h7.g.bel (Below.size h7.g.bel) (by have := hrl.out; simp; omega) ?_; intro v8 w8 hR8 hb8 hg8 hat8; obtain ⟨A8, c8, hv8⟩ := Kd.R_slice hR8; have ev8 : (rws.map ints ++ [ints r]).length = rws.length + 1 := (by simp); rw [ev8] at hv8; subst hv8; obtain ⟨b28, h8⟩ := h7.nxt hg8 hR8 hb8; have c83 : w8.cell? ⟨w.heap.size + 1, 3, none⟩ = some vN := (blk_cell b28 3).trans rfl; have f83 : w8.frozen? ⟨w.heap.size + 1, 3, none⟩ = false := blk_frozen b28 3)
     go_roundg kf
     case measure => omega
     case rel =>
      have e1 : (lj.take (i + 1)).map acc = (li.take i).map acc ++ [acc k] := by rw [HR2.out.1, htr.out.1, List.map_append]; rfl
      exact ⟨i + 1, lj, rws ++ [r], A', c', _, _, rfl, (by go_num), ⟨by rw [HR2.out.1, HR2.out.2]; exact HH.out⟩, ⟨by have := hrl.out; simp; omega⟩, (by rw [HR2.out.1]; exact htr.out.2), hQj, ⟨by rw [e1]; exact h8⟩⟩
  ·have hii : i = li.length := by omega
   subst hii
   cases gk with
   | zero => exact absurd H.out (by simp [bfs])
   | succ kf =>
   have H1 := H.out
   unfold bfs at H1
   rw [dif_neg (by omega)] at H1
   simp only [Option.some.injEq, Prod.mk.injEq] at H1
   obtain ⟨rfl, rfl⟩ := H1
   replace g := g.out
   rw [List.take_of_length_le (Nat.le_refl _)] at g
   have hlt1 : ((li.length : Int) < (li.length : Int)) = False := eq_false (by omega)
   obtain ⟨AA, cA, rfl⟩ := Kd.R_slice g.acc
   obtain ⟨AN, cN, rfl⟩ := Kd.R_slice g.nxt
   have d0 : wo.cell? ⟨w.heap.size + 1, 0, none⟩ = some (.int .i64 tapes) := (blk_cell g.b2 0).trans rfl
   have d1 : wo.cell? ⟨w.heap.size + 1, 1, none⟩ = some (.int .i64 0) := (blk_cell g.b2 1).trans rfl
   have d2 : wo.cell? ⟨w.heap.size + 1, 2, none⟩ = some (.slice AA (li.map acc).length cA) := (blk_cell g.b2 2).trans rfl
   have d3 : wo.cell? ⟨w.heap.size + 1, 3, none⟩ = some (.slice AN (rws.map ints).length cN) := (blk_cell g.b2 3).trans rfl
   have e0 : wo.cell? ⟨w.heap.size, 0, none⟩ = some (.int .i64 0) := (blk_cell g.b1 0).trans rfl
   have e1 : wo.cell? ⟨w.heap.size, 1, none⟩ = some (.int .i64 0) := (blk_cell g.b1 1).trans rfl
   have e2 : wo.cell? ⟨w.heap.size, 2, none⟩ = some (.slice none 0 0) := (blk_cell g.b1 2).trans rfl
   have e3 : wo.cell? ⟨w.heap.size, 3, none⟩ = some (.slice none 0 0) := (blk_cell g.b1 3).trans rfl
   have f0 : wo.frozen? ⟨w.heap.size, 0, none⟩ = false := blk_frozen g.b1 0
   have f1 : wo.frozen? ⟨w.heap.size, 1, none⟩ = false := blk_frozen g.b1 1
   have f2 : wo.frozen? ⟨w.heap.size, 2, none⟩ = false := blk_frozen g.b1 2
   have f3 : wo.frozen? ⟨w.heap.size, 3, none⟩ = false := blk_frozen g.b1 3
   go_wp2_with fail
   have hA := g.acc
   have hN := g.nxt
   have hB := g.bel
   have b := g.b1
   clear d0 d1 d2 d3 e0 e1 e2 e3 f0 f1 f2 f3 g
   rw [List.length_map] at hA hN
   have b1 := blk_put b 0 (.int .i64 tapes) rfl
   have b2 := blk_put b1 1 (.int .i64 0) rfl
   have b3 := blk_put b2 2 (.slice AA li.length cA) rfl
   have b4 := blk_put b3 3 (.slice AN rws.length cN) rfl
   refine bodyPost_ret (results_ct rfl _ _ (w.heap.size) 66 #[.int .i64 tapes, .int .i64 0, .slice AA li.length cA, .slice AN rws.length cN] (0, 0) _ rfl b4 Tryd.underlying66 rfl (by kernel_rfl)) rfl ⟨_, _, rfl, ?_, ?_, ?_⟩
   ·exact Kd.R_set (Kd.R_set (Kd.R_set (Kd.R_set hA b (by decide) 0 _) b1 (by decide) 1 _) b2 (by decide) 2 _) b3 (by decide) 3 _
   ·exact Kd.R_mono (Kd.R_set (Kd.R_set (Kd.R_set (Kd.R_set hN b (by decide) 0 _) b1 (by decide) 1 _) b2 (by decide) 2 _) b3 (by decide) 3 _) (fun _ _ => trivial)
   ·exact (((hB.setCell (by simp) _).setCell (by simp) _).setCell (by simp) _).setCell (by simp) _
end Go.Proofs.YtnjdkhnepmmfgaaDoor.GwI
namespace Go.Proofs.YtnjdkhnepmmfgaaDoor.Mg
set_option linter.unusedVariables false
set_option linter.unusedSimpArgs false
open Go.RowKit Go.Proofs.YtnjdkhnepmmfgaaDoorW.PrintWords Go.Proofs.YtnjdkhnepmmfgaaDoorW.PrintLast Go.Proofs.YtnjdkhnepmmfgaaDoorW.PrintMore Mp Kp Ky Fv Tdy Cl
abbrev ints := GwI.ints
theorem ints_replicate (n : Nat) : ints (List.replicate n 0) = List.replicate n (0 : Int) := by simp [ints, GwI.ints]
theorem ints_length (l : List Nat) : (ints l).length = l.length := by simp [ints, GwI.ints]
theorem ints_get (l : List Nat) (i : Nat) (h : i < (ints l).length) (h' : i < l.length) : (ints l)[i] = (l[i] : Int) := by simp [ints, GwI.ints]
theorem ints_set (l : List Nat) (i x : Nat) : (ints l).set i (x : Int) = ints (l.set i x) := by simp [ints, GwI.ints, List.map_set]
theorem num_at {W : World} {e base b n c i : Nat} {ok : Nat → Prop} {l : List Nat} (h : (Kd.int .i64).R e W base ok (.slice (some ⟨b, 0, none⟩) n c) (ints l)) (hi : i < l.length) : W.cell? ⟨b, i, none⟩ = some (.int .i64 (l[i] : Int)) := by
 obtain ⟨_, _, hC⟩ := Kd.R_reads' h
 obtain ⟨ad, e1, k1⟩ := at_num hC i (by rw [ints_length]; exact hi)
 cases e1
 rw [ints_get l i _ hi] at k1
 have ea : (⟨b, 0, none⟩ : Addr).add i = ⟨b, i, none⟩ := by
  by_cases h0 : i = 0
  ·subst h0; rfl
  ·simp [Addr.add, h0]
 rw [ea] at k1
 exact k1
theorem first_step (accs : List Bool) {i : Nat} (hi : i < accs.length) {grp : List Nat} (hg : grp = (first accs).take i ++ List.replicate (accs.length - i) 0) : (first accs).take (i + 1) ++ List.replicate (accs.length - (i + 1)) 0 = if accs[i] then grp.set i 1 else grp := by
 have hl : (first accs).length = accs.length := by simp [first]
 have ht : ((first accs).take i).length = i := by rw [List.length_take]; omega
 have e1 : (first accs).take (i + 1) = (first accs).take i ++ [(first accs)[i]'(by omega)] := List.take_succ_eq_append_getElem (by omega)
 have e2 : (first accs)[i]'(by omega) = if accs[i] then 1 else 0 := by simp [first]
 have e3 : accs.length - i = (accs.length - (i + 1)) + 1 := by omega
 rw [e1, e2, hg, e3, List.replicate_succ]
 cases accs[i] with
 | false => simp
 | true => rw [if_pos rfl, if_pos rfl, List.set_append_right _ _ (by omega), ht, Nat.sub_self, List.set_cons_zero, List.append_assoc]; rfl
theorem row_blk {W : World} {e base b n c : Nat} {ok : Nat → Prop} {l : List Int} (h : (Kd.int .i64).R e W base ok (.slice (some ⟨b, 0, none⟩) n c) l) (hl : 0 < l.length) : base ≤ b ∧ ∃ cells, W.heap[b]? = some (.cells cells e (0, 0)) := by
 obtain ⟨g, cap, e1, h1, _, h3⟩ := Kd.R_form h hl
 cases e1
 exact ⟨h1, h3⟩
theorem out_step (out : List Nat) (x : Nat) {i n : Nat} (ho : out.length = i) (hi : i < n) : (out ++ List.replicate (n - i) 0).set i x = (out ++ [x]) ++ List.replicate (n - (i + 1)) 0 := by
 have e3 : n - i = (n - (i + 1)) + 1 := by omega
 rw [e3, List.replicate_succ, List.set_append_right _ _ (by omega), ho, Nat.sub_self, List.set_cons_zero, List.append_assoc]
 rfl
/-- A state's key as a text. -/
def keyF (T : Nat → ByteArray) (s : ByteArray) (l : List Nat) : ByteArray := l.foldl (fun s m => s ++ (⟨#[44]⟩ ++ T m)) s
def keyB (T : Nat → ByteArray) : List Nat → ByteArray
 | [] => ⟨#[]⟩
 | n :: l => keyF T (T n) l
theorem keyF_snoc (T : Nat → ByteArray) (s : ByteArray) (l : List Nat) (m : Nat) : keyF T s (l ++ [m]) = keyF T s l ++ (⟨#[44]⟩ ++ T m) := by simp [keyF]
theorem keyF_size (T : Nat → ByteArray) (hT : ∀ n, (T n).size ≤ 20) (s : ByteArray) : ∀ l : List Nat, (keyF T s l).size ≤ s.size + 21 * l.length := by
 intro l
 induction l generalizing s with
 | nil => simp [keyF]
 | cons m l ih =>
  have h := ih (s ++ (⟨#[44]⟩ ++ T m))
  have e : keyF T s (m :: l) = keyF T (s ++ (⟨#[44]⟩ ++ T m)) l := rfl
  have e1 : (ByteArray.mk #[44]).size = 1 := rfl
  have := hT m
  rw [e, List.length_cons]
  rw [ByteArray.size_append, ByteArray.size_append, e1] at h
  omega
def ents (T : Nat → ByteArray) (l : List (List Nat)) : List (Value × Value) := l.zipIdx.map fun p => (.string (keyB T p.1), .int .i64 (p.2 : Int))
theorem ents_snoc (T : Nat → ByteArray) (l : List (List Nat)) (k : List Nat) : ents T (l ++ [k]) = ents T l ++ [(.string (keyB T k), .int .i64 (l.length : Int))] := by simp [ents, List.zipIdx_append]
theorem ents_length (T : Nat → ByteArray) (l : List (List Nat)) : (ents T l).length = l.length := by simp [ents]
theorem ents_hit {T : Nat → ByteArray} {l : List (List Nat)} {k : List Nat} {j : Nat} (h : find id k l = some j) : (Value.string (keyB T k), Value.int .i64 (j : Int)) ∈ ents T l := by
 obtain ⟨hj, e⟩ := find_some h
 refine List.mem_map.2 ⟨(k, j), ?_, rfl⟩
 rw [List.mem_zipIdx_iff_getElem?, List.getElem?_eq_getElem hj]
 exact congrArg some e
theorem ents_miss {T : Nat → ByteArray} {l : List (List Nat)} {k : List Nat} (hi : ∀ a ∈ l, keyB T a = keyB T k → a = k) (h : find id k l = none) : ∀ p ∈ ents T l, p.1 ≠ Value.string (keyB T k) := by
 intro p hp he
 obtain ⟨⟨a, i⟩, ha, rfl⟩ := List.mem_map.1 hp
 have hm : a ∈ l := by
  rw [List.mem_zipIdx_iff_getElem?] at ha
  exact List.mem_of_getElem? ha
 have he' : keyB T a = keyB T k := by injection he
 exact find_none h a hm (hi a hm he')
/-- One state of each class: the last. -/
def ones (g : List Nat) (n : Nat) : List Nat := (List.range n).foldl (fun o i => o.set (g.getD i 0) i) (List.replicate g.length 0)
def oneOf (g : List Nat) (a : Nat) : Nat := (ones g g.length).getD a 0
/-- What stands in memory: the machine, the result, the variable 'group' with its row; x: another row. -/
structure M (w0 : World) (tapes start : Int) (AA : Option Addr) (na ca : Nat) (AN : Option Addr) (nn cn : Nat) (gG : Nat) (vG : Value) (grp : List Nat) (x : Option Nat) (W : World) : Prop where
 bM : W.heap[w0.heap.size]? = some (.cells #[.int .i64 tapes, .int .i64 start, .slice AA na ca, .slice AN nn cn] 66 (0, 0))
 bR : W.heap[w0.heap.size + 1]? = some (.cells #[.int .i64 0, .int .i64 0, .slice none 0 0, .slice none 0 0] 66 (0, 0))
 bG : W.heap[gG]? = some (.cells #[vG] 87 (0, 0))
 grp : Kd.R (Kd.int .i64) 3 W w0.heap.size (fun k => True ∧ some k ≠ x) vG (ints grp)
 bel : Below w0.heap.size w0 W
section
variable {w0 : World} {tapes start : Int} {AA : Option Addr} {na ca : Nat} {AN : Option Addr} {nn cn gG : Nat} {vG : Value} {grp : List Nat} {x : Option Nat} {W W' : World}
theorem M.step (h : M w0 tapes start AA na ca AN nn cn gG vG grp x W) (hb : Below W.heap.size W W') : M w0 tapes start AA na ca AN nn cn gG vG grp x W' :=
 ⟨blk_below h.bM hb, blk_below h.bR hb, blk_below h.bG hb, Kd.R_below h.grp hb, below_step h.bel hb⟩
theorem M.put {b n c : Nat} (h : M w0 tapes start AA na ca AN nn cn gG (.slice (some ⟨b, 0, none⟩) n c) grp none W) (hb : w0.heap.size ≤ b) (i x : Nat) : M w0 tapes start AA na ca AN nn cn gG (.slice (some ⟨b, 0, none⟩) n c) (grp.set i x) none (W.setCell ⟨b, i, none⟩ (.int .i64 (x : Int))) := by
 have hs := Keep.set W ⟨b, i, none⟩ (.int .i64 (x : Int))
 have o : ∀ E : List Nat, (∀ q ∈ E, q ≠ 3) → Off W (some b) E := fun E hE => Off.row h.grp hE
 refine ⟨hs.obj h.bM (off_ne h.bM (o _ (by decide))), hs.obj h.bR (off_ne h.bR (o _ (by decide))), hs.obj h.bG (off_ne h.bG (o _ (by decide))), ?_, h.bel.setCell hb _⟩
 rw [← ints_set]
 exact Kd.R_putn h.grp (i : Int) (x : Int)
theorem M.lt (h : M w0 tapes start AA na ca AN nn cn gG vG grp x W) : w0.heap.size + 1 < W.heap.size := blk_lt h.bR
end
/-- .. and while the next classes are made. -/
structure N (T : Nat → ByteArray) (w0 : World) (tapes start : Int) (AA : Option Addr) (na ca : Nat) (AN : Option Addr) (nn cn : Nat) (gG : Nat) (vG : Value) (grp : List Nat) (mb : Nat) (seen : List (List Nat)) (vX : Value) (nx : List Nat) (W : World) : Prop where
 m : M w0 tapes start AA na ca AN nn cn gG vG grp vX.ownBlock W
 map : FMap Tryd.prog 9 W mb (ents T seen)
 nxt : Kd.R (Kd.int .i64) 3 W w0.heap.size (fun k => True ∧ some k ≠ vG.ownBlock) vX (ints nx)
 mbl : w0.heap.size ≤ mb
section
variable {T : Nat → ByteArray} {w0 : World} {tapes start : Int} {AA : Option Addr} {na ca : Nat} {AN : Option Addr} {nn cn gG mb : Nat} {vG vX : Value} {grp nx : List Nat} {seen seen' : List (List Nat)} {W W' : World}
theorem N.born {n : Nat} (hM : M w0 tapes start AA na ca AN nn cn gG vG grp none W) (hg : W.grownBy W' none) (hn : ∃ b, vX.ownBlock = some b ∧ W.heap.size ≤ b) (hR : Kd.R (Kd.int .i64) 3 W' w0.heap.size (fun k => True ∧ some k ≠ vG.ownBlock) vX (List.replicate n 0)) (hB : Below w0.heap.size w0 W')
  (hm : FMap Tryd.prog 9 W mb []) (hmb : w0.heap.size ≤ mb) : N T w0 tapes start AA na ca AN nn cn gG vG grp mb [] vX (List.replicate n 0) W' := by
 have hk := Keep.grown hg
 have hR3 := Kd.R_after (v := .slice none 0 0) (Kd.R_mono hM.grp (ok' := fun k => (True ∧ some k ≠ none) ∧ some k ≠ (Value.slice none 0 0).ownBlock) (fun _ _ => ⟨⟨trivial, by simp⟩, by simp [Value.ownBlock]⟩)) hg (Or.inr hn)
 refine ⟨⟨hk.obj hM.bM (by simp), hk.obj hM.bR (by simp), hk.obj hM.bG (by simp), Kd.R_mono hR3 (fun _ hk => ⟨trivial, hk.2⟩), hB⟩, map_keep hm hk (by simp), ?_, hmb⟩
 rw [ints_replicate]
 exact hR
theorem N.step (h : N T w0 tapes start AA na ca AN nn cn gG vG grp mb seen vX nx W) (hb : Below W.heap.size W W') : N T w0 tapes start AA na ca AN nn cn gG vG grp mb seen vX nx W' :=
 ⟨h.m.step hb, map_keep h.map (Keep.below hb) (by simp), Kd.R_below h.nxt hb, h.mbl⟩
theorem N.put (h : N T w0 tapes start AA na ca AN nn cn gG vG grp mb seen vX nx W) (hg : W.grownBy W' (some mb)) (hF : FMap Tryd.prog 9 W' mb (ents T seen')) : N T w0 tapes start AA na ca AN nn cn gG vG grp mb seen' vX nx W' := by
 have hk := Keep.grown hg
 have ne : ∀ {g t : Nat} {c : Array Value}, W.heap[g]? = some (.cells c t (0, 0)) → some g ≠ some mb := fun hb e => map_ne h.map hb (Option.some.inj e).symm
 exact ⟨⟨hk.obj h.m.bM (ne h.m.bM), hk.obj h.m.bR (ne h.m.bR), hk.obj h.m.bG (ne h.m.bG), R_off h.m.grp hk (Off.map h.map _), h.m.bel.grown hg (Below.size h.m.bel) (fun k hk => by cases hk; exact h.mbl)⟩, hF, R_off h.nxt hk (Off.map h.map _), h.mbl⟩
theorem N.set {b n c : Nat} (h : N T w0 tapes start AA na ca AN nn cn gG vG grp mb seen (.slice (some ⟨b, 0, none⟩) n c) nx W) (hb : w0.heap.size ≤ b) (i x : Nat) : N T w0 tapes start AA na ca AN nn cn gG vG grp mb seen (.slice (some ⟨b, 0, none⟩) n c) (nx.set i x) (W.setCell ⟨b, i, none⟩ (.int .i64 (x : Int))) := by
 have hs := Keep.set W ⟨b, i, none⟩ (.int .i64 (x : Int))
 have o : ∀ E : List Nat, (∀ q ∈ E, q ≠ 3) → Off W (some b) E := fun E hE => Off.row h.nxt hE
 refine ⟨⟨hs.obj h.m.bM (off_ne h.m.bM (o _ (by decide))), hs.obj h.m.bR (off_ne h.m.bR (o _ (by decide))), hs.obj h.m.bG (off_ne h.m.bG (o _ (by decide))), R_apart h.m.grp hs, h.m.bel.setCell hb _⟩, map_keep h.map hs (map_row_ne h.map h.nxt), ?_, h.mbl⟩
 rw [← ints_set]
 exact Kd.R_putn h.nxt (i : Int) (x : Int)
/-- The classes are the next ones. -/
theorem N.turn (h : N T w0 tapes start AA na ca AN nn cn gG vG grp mb seen vX nx W) (hg : w0.heap.size ≤ gG) : M w0 tapes start AA na ca AN nn cn gG vX nx none (W.setCell ⟨gG, 0, none⟩ vX) ∧ FMap Tryd.prog 9 (W.setCell ⟨gG, 0, none⟩ vX) mb (ents T seen) := by
 have hs := Keep.set W ⟨gG, 0, none⟩ vX
 have ho : ∀ E : List Nat, (∀ q ∈ E, q ≠ 87) → Off W (some gG) E := fun E hE => Off.cells h.m.bG hE
 refine ⟨⟨hs.obj h.m.bM (off_ne h.m.bM (ho _ (by decide))), hs.obj h.m.bR (off_ne h.m.bR (ho _ (by decide))), blk_put h.m.bG 0 vX rfl, ?_, h.m.bel.setCell hg _⟩, map_keep h.map hs (fun e => map_ne h.map h.m.bG (Option.some.inj e))⟩
 exact Kd.R_mono (R_off h.nxt hs (ho _ (by decide))) (fun _ _ => ⟨trivial, by simp⟩)
end
/-- .. and while one state of each class is looked for. -/
structure O (w0 : World) (tapes start : Int) (AA : Option Addr) (na ca : Nat) (AN : Option Addr) (nn cn : Nat) (gG : Nat) (vG : Value) (grp : List Nat) (gO : Nat) (vO : Value) (on : List Nat) (W : World) : Prop where
 m : M w0 tapes start AA na ca AN nn cn gG vG grp vO.ownBlock W
 bO : W.heap[gO]? = some (.cells #[vO] 87 (0, 0))
 row : Kd.R (Kd.int .i64) 3 W w0.heap.size (fun k => True ∧ some k ≠ vG.ownBlock) vO (ints on)
section
variable {w0 : World} {tapes start : Int} {AA : Option Addr} {na ca : Nat} {AN : Option Addr} {nn cn gG gO : Nat} {vG vO : Value} {grp on : List Nat} {W W' : World}
theorem O.born {n : Nat} (hM : M w0 tapes start AA na ca AN nn cn gG vG grp none W) (hg : W.grownBy W' none) (hn : ∃ b, vO.ownBlock = some b ∧ W.heap.size ≤ b) (hR : Kd.R (Kd.int .i64) 3 W' w0.heap.size (fun k => True ∧ some k ≠ vG.ownBlock) vO (List.replicate n 0)) (hB : Below w0.heap.size w0 W') :
  O w0 tapes start AA na ca AN nn cn gG vG grp W'.heap.size vO (List.replicate n 0) (W'.alloc (.cells #[vO] 87)) := by
 have hk := Keep.grown hg
 have hR3 := Kd.R_after (v := .slice none 0 0) (Kd.R_mono hM.grp (ok' := fun k => (True ∧ some k ≠ none) ∧ some k ≠ (Value.slice none 0 0).ownBlock) (fun _ _ => ⟨⟨trivial, by simp⟩, by simp [Value.ownBlock]⟩)) hg (Or.inr hn)
 have hb := below_alloc (Below.refl W'.heap.size W') (.cells #[vO] 87)
 refine ⟨M.step ⟨hk.obj hM.bM (by simp), hk.obj hM.bR (by simp), hk.obj hM.bG (by simp), Kd.R_mono hR3 (fun _ hk => ⟨trivial, hk.2⟩), hB⟩ hb, blk_new _ _, ?_⟩
 rw [ints_replicate]
 exact Kd.R_below hR hb
theorem O.step (h : O w0 tapes start AA na ca AN nn cn gG vG grp gO vO on W) (hb : Below W.heap.size W W') : O w0 tapes start AA na ca AN nn cn gG vG grp gO vO on W' := ⟨h.m.step hb, blk_below h.bO hb, Kd.R_below h.row hb⟩
theorem O.set {b n c : Nat} (h : O w0 tapes start AA na ca AN nn cn gG vG grp gO (.slice (some ⟨b, 0, none⟩) n c) on W) (hb : w0.heap.size ≤ b) (i x : Nat) : O w0 tapes start AA na ca AN nn cn gG vG grp gO (.slice (some ⟨b, 0, none⟩) n c) (on.set i x) (W.setCell ⟨b, i, none⟩ (.int .i64 (x : Int))) := by
 have hs := Keep.set W ⟨b, i, none⟩ (.int .i64 (x : Int))
 have o : ∀ E : List Nat, (∀ q ∈ E, q ≠ 3) → Off W (some b) E := fun E hE => Off.row h.row hE
 refine ⟨⟨hs.obj h.m.bM (off_ne h.m.bM (o _ (by decide))), hs.obj h.m.bR (off_ne h.m.bR (o _ (by decide))), hs.obj h.m.bG (off_ne h.m.bG (o _ (by decide))), R_apart h.m.grp hs, h.m.bel.setCell hb _⟩, hs.obj h.bO (off_ne h.bO (o _ (by decide))), ?_⟩
 rw [← ints_set]
 exact Kd.R_putn h.row (i : Int) (x : Int)
end
def onesTo (g : List Nat) (i : Nat) : List Nat := (List.range i).foldl (fun o i => o.set (g.getD i 0) i) (List.replicate g.length 0)
theorem onesTo_succ (g : List Nat) (i : Nat) : onesTo g (i + 1) = (onesTo g i).set (g.getD i 0) i := by simp [onesTo, List.range_succ]
theorem onesTo_length (g : List Nat) : ∀ i, (onesTo g i).length = g.length
 | 0 => by simp [onesTo]
 | i + 1 => by rw [onesTo_succ, List.length_set, onesTo_length g i]
/-! ### the classes, step by step -/
theorem keys_length (rows : List (List Nat)) (g : List Nat) : (keys rows g).length = rows.length := by simp [keys]
theorem keys_drop (rows : List (List Nat)) (g : List Nat) {i : Nat} (h : i < rows.length) : (keys rows g).drop i = Tdy.keyOf rows g i :: (keys rows g).drop (i + 1) := by
 rw [List.drop_eq_getElem_cons (by rw [keys_length]; exact h)]
 congr 1
 simp [keys]
theorem number_hit {k : List Nat} {ks seen : List (List Nat)} {j : Nat} (h : find id k seen = some j) : number (k :: ks) seen = (j :: (number ks seen).1, (number ks seen).2) := by
 rw [number, h]
theorem number_miss {k : List Nat} {ks seen : List (List Nat)} (h : find id k seen = none) : number (k :: ks) seen = (seen.length :: (number ks (seen ++ [k])).1, (number ks (seen ++ [k])).2) := by
 rw [number, h]
theorem number_lt : ∀ (ks seen : List (List Nat)), (number ks seen).2.length ≤ seen.length + ks.length ∧ seen.length ≤ (number ks seen).2.length ∧ (number ks seen).1.length = ks.length ∧ ∀ x ∈ (number ks seen).1, x < (number ks seen).2.length
 | [], seen => ⟨by simp [number], by simp [number], rfl, fun x h => by simp [number] at h⟩
 | k :: ks, seen => by
  cases h : find id k seen with
  | some j =>
   rw [number_hit h]
   obtain ⟨h1, h2, h3, h4⟩ := number_lt ks seen
   obtain ⟨hj, _⟩ := find_some h
   refine ⟨?_, h2, ?_, ?_⟩
   ·simp only [List.length_cons]; omega
   ·simp only [List.length_cons]; omega
   ·intro x hx
    rcases List.mem_cons.1 hx with rfl | hx
    ·exact Nat.lt_of_lt_of_le hj h2
    ·exact h4 x hx
  | none =>
   rw [number_miss h]
   obtain ⟨h1, h2, h3, h4⟩ := number_lt ks (seen ++ [k])
   simp only [List.length_append, List.length_singleton] at h1 h2
   refine ⟨?_, ?_, ?_, ?_⟩
   ·simp only [List.length_cons]; omega
   ·simp only; omega
   ·simp only [List.length_cons]; omega
   ·intro x hx
    rcases List.mem_cons.1 hx with rfl | hx
    ·simp only; omega
    ·exact h4 x hx
end Go.Proofs.YtnjdkhnepmmfgaaDoor.Mg
namespace Go.Proofs.YtnjdkhnepmmfgaaDoor.It
set_option linter.unusedVariables false
set_option linter.unusedSimpArgs false
open Go.RowKit Go.Sort Go.Proofs.YtnjdkhnepmmfgaaDoorW.PrintWords Mg
/-- The library's table of the powers of ten. -/
def Glob (w : World) : Prop := Lib.TabIs Tryd.prog w "internal/strconv.uint64pow10" .u64 Lib.pow10Tab
theorem glob_below (w w' : World) (h : Glob w) (hb : Below w.heap.size w w') : Glob w' := Lib.tabBelow_of_tabIs h w' hb
theorem below_grow (w : World) (k : Nat) (os : Array Obj) : Below w.heap.size w (grow (w.drewN k) os) :=
 ⟨rfl, rfl, rfl, by simp [grow], fun i hi => by simp [grow, Array.getElem?_append_left hi]⟩
def T (n : Nat) : ByteArray := if n ≤ 1000000 then ⟨(Lib.decDigits n).toArray⟩ else ⟨#[]⟩
theorem T_eq {n : Nat} (h : n ≤ 1000000) : T n = ⟨(Lib.decDigits n).toArray⟩ := if_pos h
theorem itoa (W : World) (n : Nat) (hG : Glob W) (hn : n ≤ 1000000) : Calls Tryd.prog 115 #[.int .i64 (n : Int)] W fun e W' => e = .returned (.string (T n)) ∧ Below W.heap.size W W' := by
 refine Calls.mono (Tryd.strconv_Itoa (n : Int) (by omega) (by omega) W hG) ?_
 rintro e w' ⟨rfl, k, os, rfl⟩
 refine ⟨?_, below_grow _ _ _⟩
 rw [T_eq hn]
 have e0 : ¬ ((n : Int) < 0) := by omega
 simp [Lib.itoa, e0]
theorem nDigits_le : ∀ (k u : Nat), u < 10 ^ (k + 1) → Lib.nDigits u ≤ k + 1
 | 0, u, h => by rw [Lib.nDigits_small (by simpa using h)]; exact Nat.le_refl _
 | k + 1, u, h => by
  by_cases hu : u < 10
  ·rw [Lib.nDigits_small hu]; omega
  ·rw [Lib.nDigits_big hu]
   have := nDigits_le k (u / 10) (by rw [Nat.pow_succ] at h; omega)
   omega
theorem T_size (n : Nat) : (T n).size ≤ 20 := by
 unfold T
 split
 ·show (Lib.decDigits n).toArray.size ≤ 20
  rw [List.size_toArray, Lib.decDigits_length]
  have := nDigits_le 6 n (by omega)
  omega
 ·exact Nat.zero_le _
def val (l : List UInt8) : Nat := l.foldl (fun a c => a * 10 + (c.toNat - 48)) 0
theorem val_dec (n : Nat) : val (Lib.decDigits n) = n := by
 induction n using Nat.strongRecOn with
 | _ n ih =>
  by_cases h : n < 10
  ·rw [Lib.decDigits, dif_pos h]
   simp [val, UInt8.toNat_ofNat']
   omega
  ·rw [Lib.decDigits, dif_neg h]
   have := ih (n / 10) (by omega)
   unfold val at this ⊢
   rw [List.foldl_append, this]
   simp [UInt8.toNat_ofNat']
   omega
theorem dec_not (n : Nat) : ∀ c ∈ Lib.decDigits n, c ≠ 44 := by
 induction n using Nat.strongRecOn with
 | _ n ih =>
  have h0 : ∀ d, d < 10 → UInt8.ofNat (48 + d) ≠ 44 := by decide
  by_cases h : n < 10
  ·rw [Lib.decDigits, dif_pos h]
   intro c hc
   rw [List.mem_singleton.1 hc]
   exact h0 n h
  ·rw [Lib.decDigits, dif_neg h]
   intro c hc
   rcases List.mem_append.1 hc with hc | hc
   ·exact ih (n / 10) (by omega) c hc
   ·rw [List.mem_singleton.1 hc]
    exact h0 _ (Nat.mod_lt _ (by omega))
def rest (l : List Nat) : List UInt8 := l.flatMap (fun m => 44 :: Lib.decDigits m)
theorem key_list (s : ByteArray) : ∀ l : List Nat, (∀ x ∈ l, x ≤ 1000000) → (keyF T s l).data.toList = s.data.toList ++ rest l := by
 intro l
 induction l generalizing s with
 | nil => intro _; simp [keyF, rest]
 | cons m l ih =>
  intro h
  have e : keyF T s (m :: l) = keyF T (s ++ (⟨#[44]⟩ ++ T m)) l := rfl
  rw [e, ih _ (fun x hx => h x (List.mem_cons_of_mem _ hx)), T_eq (h m (List.mem_cons_self ..))]
  simp [rest, ByteArray.data_append]
theorem cut {a b x y : List UInt8} (ha : ∀ c ∈ a, c ≠ 44) (hb : ∀ c ∈ b, c ≠ 44) (hx : x = [] ∨ ∃ r, x = 44 :: r) (hy : y = [] ∨ ∃ r, y = 44 :: r) (h : a ++ x = b ++ y) : a = b ∧ x = y := by
 induction a generalizing b with
 | nil =>
  cases b with
  | nil => exact ⟨rfl, h⟩
  | cons c b =>
   rcases hx with rfl | ⟨r, rfl⟩
   ·cases h
   ·simp only [List.nil_append, List.cons_append, List.cons.injEq] at h
    exact absurd h.1.symm (hb c (List.mem_cons_self ..))
 | cons c a ih =>
  cases b with
  | nil =>
   rcases hy with rfl | ⟨r, rfl⟩
   ·cases h
   ·simp only [List.nil_append, List.cons_append, List.cons.injEq] at h
    exact absurd h.1 (ha c (List.mem_cons_self ..))
  | cons c' b =>
   simp only [List.cons_append, List.cons.injEq] at h
   obtain ⟨h1, h2⟩ := ih (fun x hx => ha x (List.mem_cons_of_mem _ hx)) (fun x hx => hb x (List.mem_cons_of_mem _ hx)) h.2
   exact ⟨by rw [h.1, h1], h2⟩
theorem rest_form (l : List Nat) : rest l = [] ∨ ∃ r, rest l = 44 :: r := by
 cases l with
 | nil => exact .inl rfl
 | cons m l => exact .inr ⟨_, rfl⟩
theorem rest_inj : ∀ a b : List Nat, rest a = rest b → a = b
 | [], [], _ => rfl
 | [], m :: b, h => by simp [rest] at h
 | m :: a, [], h => by simp [rest] at h
 | m :: a, n :: b, h => by
  have e : ∀ (m : Nat) (a : List Nat), rest (m :: a) = 44 :: (Lib.decDigits m ++ rest a) := fun m a => by simp [rest]
  rw [e, e, List.cons.injEq] at h
  obtain ⟨h1, h2⟩ := cut (dec_not m) (dec_not n) (rest_form a) (rest_form b) h.2
  rw [rest_inj a b h2, ← val_dec m, h1, val_dec]
theorem inj (a b : List Nat) (ha : a ≠ []) (hb : b ≠ []) (hla : ∀ x ∈ a, x ≤ 1000000) (hlb : ∀ x ∈ b, x ≤ 1000000) (h : keyB T a = keyB T b) : a = b := by
 cases a with
 | nil => exact absurd rfl ha
 | cons m a =>
  cases b with
  | nil => exact absurd rfl hb
  | cons n b =>
   have h2 : (keyF T (T m) a).data.toList = (keyF T (T n) b).data.toList := by
    have : keyF T (T m) a = keyF T (T n) b := h
    rw [this]
   rw [key_list _ a (fun x hx => hla x (List.mem_cons_of_mem _ hx)), key_list _ b (fun x hx => hlb x (List.mem_cons_of_mem _ hx)), T_eq (hla m (List.mem_cons_self ..)), T_eq (hlb n (List.mem_cons_self ..))] at h2
   obtain ⟨h3, h4⟩ := cut (by simpa using dec_not m) (by simpa using dec_not n) (rest_form a) (rest_form b) h2
   have h5 : Lib.decDigits m = Lib.decDigits n := by simpa using h3
   rw [rest_inj a b h4, ← val_dec m, h5, val_dec]
end Go.Proofs.YtnjdkhnepmmfgaaDoor.It
namespace Go.Proofs.YtnjdkhnepmmfgaaDoor.Mg
set_option linter.unusedVariables false
set_option linter.unusedSimpArgs false
open Go.RowKit Go.Proofs.YtnjdkhnepmmfgaaDoorW.PrintWords Go.Proofs.YtnjdkhnepmmfgaaDoorW.PrintLast Go.Proofs.YtnjdkhnepmmfgaaDoorW.PrintMore Mp Kp Ky Fv Tdy Cl
theorem onesTo_lt (g : List Nat) {n : Nat} (hn : 0 < n) : ∀ i, i ≤ n → ∀ a ∈ onesTo g i, a < n
 | 0, _, a, ha => by
  unfold onesTo at ha
  rw [List.eq_of_mem_replicate ha]; exact hn
 | i + 1, hi, a, ha => by
  rw [onesTo_succ] at ha
  rcases List.mem_or_eq_of_mem_set ha with h | rfl
  ·exact onesTo_lt g hn i (by omega) a h
  ·omega
theorem ones_eq (g : List Nat) : ones g g.length = onesTo g g.length := rfl
/-- The classes' numbers, as the program holds them. -/
theorem bfs_int {nxt : Nat → Nat → Nat} {cols : List Nat} {s f : Nat} {l : List Nat} {rws : List (List Nat)} (h : bfs id nxt cols 0 f 0 [s] [] = some (some (l, rws))) :
  bfs id (fun (k : Int) c => ((nxt k.toNat c : Nat) : Int)) cols 0 f 0 [(s : Int)] [] = some (some (ints l, rws)) := by
 have hl := bfs_lock (R := fun (a : Nat) (b : Int) => b = (a : Int)) (key1 := id) (key2 := id) (nxt1 := nxt) (nxt2 := fun (k : Int) c => ((nxt k.toNat c : Nat) : Int)) (by
  intro s t s' t' e e'
  simp only [id_eq]
  omega) cols (by
  intro s t e c _
  subst e
  simp) 0 f 0 [s] [(s : Int)] [] ⟨rfl, trivial⟩
 rw [h] at hl
 revert hl
 generalize bfs id (fun (k : Int) c => ((nxt k.toNat c : Nat) : Int)) cols 0 f 0 [(s : Int)] [] = r
 match r with
 | none => exact fun h => h.elim
 | some none => exact fun h => h.elim
 | some (some (l', r')) =>
  rintro ⟨h1, h2⟩
  have : ∀ {a : List Nat} {b : List Int}, Two (fun (a : Nat) (b : Int) => b = (a : Int)) a b → b = ints a := by
   intro a
   induction a with
   | nil => intro b h; cases b with
    | nil => rfl
    | cons _ _ => exact h.elim
   | cons x a ih => intro b h; cases b with
    | nil => exact h.elim
    | cons y b =>
     obtain ⟨h1, h2⟩ := h
     rw [ih h2, h1]
     rfl
  simp only at h1 h2
  rw [this h1, ← h2]
theorem bfs_len {nxt : Nat → Nat → Nat} {cols : List Nat} {s f n : Nat} {l : List Nat} {rws : List (List Nat)} (h : bfs id nxt cols 0 f 0 [s] [] = some (some (l, rws))) (hs : s < n) (hn : ∀ a, ∀ c ∈ cols, nxt a c < n) : l.length ≤ n := by
 have hd := (bfs_done f 0 [s] [] l rws h (Nat.zero_le _) rfl (List.pairwise_singleton _ _) (fun r hr => by cases hr) (fun i hi => by cases hi)).1
 have ha := bfs_all (Q := fun a => a < n) (fun a _ c hc => hn a c hc) f 0 [s] [] l rws h (fun x hx => by rw [List.mem_singleton.1 hx]; exact hs)
 have := nodup_le (l := l) (m := List.range n) (List.nodup_iff_pairwise_ne.2 hd.apart) (fun x hx => List.mem_range.2 (ha x hx))
 simpa using this
theorem grown (tapes start : Nat) (accs : List Bool) (rows : List (List Nat)) (wd : Nat) (hwd2 : wd ≤ 30) (hcl : Closed wd rows accs) (hn : rows.length ≤ 1000000) (hst : start < rows.length)
  (hwd : ∀ W, Calls Tryd.prog 94 #[.int .i64 tapes] W fun e W' => e = .returned (.int .i64 wd) ∧ Below W.heap.size W W')
  (w W : World) (AA : Option Addr) (ca : Nat) (AN : Option Addr) (cn : Nat) (hA : Kd.C Kd.bool w AA accs.length accs) (hN : Kd.C (Kd.slice 3 (Kd.int .i64)) w AN rows.length (rows.map ints)) (hca : accs.length ≤ ca) (hcn : rows.length ≤ cn)
  (out : List Nat) (hol : out.length = rows.length) (hx : ∀ x ∈ out, x < rows.length) (gG gO cx gx cy gy : Nat)
  (hO : O w tapes start AA accs.length ca AN rows.length cn gG (.slice (some ⟨gx, 0, none⟩) rows.length cx) out gO (.slice (some ⟨gy, 0, none⟩) rows.length cy) (onesTo out rows.length) W)
  (f2 : Nat) (l : List Nat) (rws : List (List Nat)) (hr : byClass wd rows out (oneOf out) start f2 = some (some (l, rws))) :
  Calls Tryd.prog 116 #[.int .i64 tapes, .int .i64 (out.getD start 0 : Nat), .int .i64 0, .func (.func 117) #[] #[.pointer (some ⟨w.heap.size, 0, none⟩), .pointer (some ⟨gO, 0, none⟩)],
    .func (.func 118) #[] #[.pointer (some ⟨gG, 0, none⟩), .pointer (some ⟨w.heap.size, 0, none⟩), .pointer (some ⟨gO, 0, none⟩)]] W fun e W' => ∃ vA vN, e = .returned (.tuple #[.agg #[.int .i64 tapes, .int .i64 0, vA, vN], .bool true]) ∧
   Kd.R Kd.bool 4 W' W.heap.size (fun _ => True) vA (l.map (fun a => accs.getD (oneOf out a) false)) ∧ Kd.R (Kd.slice 3 (Kd.int .i64)) 87 W' W.heap.size (fun _ => True) vN (rws.map ints) ∧ Below W.heap.size W W' := by
 have hmach : Mach W w.heap.size tapes start accs (rows.map ints) := ⟨AA, ca, AN, cn, by rw [List.length_map]; exact hO.m.bM, Kd.C_below hA hO.m.bel, by rw [List.length_map]; exact Kd.C_below hN hO.m.bel, hca, by rw [List.length_map]; exact hcn⟩
 have hlo : (onesTo out rows.length).length = rows.length := by rw [onesTo_length, hol]
 have hno : Nums W gO (ints (onesTo out rows.length)) := by
  obtain ⟨e, h1, h2⟩ := Kd.R_reads' hO.row
  exact ⟨_, cy, by rw [← e]; exact hO.bO, h2, by rw [← e]; exact h1⟩
 have hng : Nums W gG (ints out) := by
  obtain ⟨e, h1, h2⟩ := Kd.R_reads' hO.m.grp
  exact ⟨_, cx, by rw [← e]; exact hO.m.bG, h2, by rw [← e]; exact h1⟩
 have hn0 : 0 < rows.length := by omega
 have hone : ∀ a, a < rows.length → (onesTo out rows.length).getD a 0 < rows.length := fun a ha => by
  rw [List.getD_eq_getElem?_getD, List.getElem?_eq_getElem (by rw [hlo]; exact ha)]
  exact onesTo_lt out hn0 rows.length (Nat.le_refl _) _ (List.getElem_mem _)
 have hoe : ∀ a, oneOf out a = (onesTo out rows.length).getD a 0 := fun a => by unfold oneOf; rw [ones_eq, hol]
 have hgd : ∀ x, x < rows.length → out.getD x 0 < rows.length := fun x h => by
  rw [List.getD_eq_getElem?_getD, List.getElem?_eq_getElem (by rw [hol]; exact h)]
  exact hx _ (List.getElem_mem _)
 have hgd0 : ∀ x, out.getD x 0 < rows.length := fun x => by
  by_cases h : x < rows.length
  ·exact hgd x h
  ·rw [List.getD_eq_getElem?_getD, List.getElem?_eq_none (by omega)]
   exact hn0
 unfold byClass at hr
 have hlen := bfs_len hr (hgd0 start) (fun a c _ => hgd0 _)
 have hri := bfs_int hr
 have hmain := GwI.grow tapes (out.getD start 0 : Nat) (.func (.func 117) #[] #[.pointer (some ⟨w.heap.size, 0, none⟩), .pointer (some ⟨gO, 0, none⟩)])
  (.func (.func 118) #[] #[.pointer (some ⟨gG, 0, none⟩), .pointer (some ⟨w.heap.size, 0, none⟩), .pointer (some ⟨gO, 0, none⟩)]) (fun k => accs.getD (oneOf out k.toNat) false) (fun (k : Int) c => ((out.getD ((rows.getD (oneOf out k.toNat) []).getD c 0) 0 : Nat) : Int)) W wd hwd2 hwd
  (fun k => ∃ a : Nat, a < rows.length ∧ k = (a : Int)) ⟨_, hgd0 start, rfl⟩ (by rintro k ⟨a, ha, rfl⟩; exact ⟨by omega, by omega⟩) (fun k c _ _ => ⟨_, hgd0 _, rfl⟩) ?_ ?_ f2 (ints l) rws hri (by rw [ints_length]; omega)
 ·refine hmain.mono ?_
  rintro e W' ⟨vA, vN, rfl, h1, h2, h3⟩
  refine ⟨vA, vN, rfl, ?_, h2, h3⟩
  have e : (ints l).map (fun k => accs.getD (oneOf out k.toNat) false) = l.map (fun a => accs.getD (oneOf out a) false) := by simp [ints, GwI.ints, Function.comp_def]
  rw [e] at h1
  exact h1
 ·rintro k ⟨a, ha, rfl⟩
  refine ⟨_, _, _, rfl, Tryd.func117, rfl, rfl, fun W' hb => ?_⟩
  have ho : oneOf out a < accs.length := by rw [hoe, ← hcl.len]; exact hone a ha
  have h1 := m1 w.heap.size gO tapes start accs (rows.map ints) (ints (onesTo out rows.length)) a (oneOf out a) W' (hmach.below hb) (hno.below hb) (by rw [ints_length, hlo]; exact ha) (by rw [ints_get _ a _ (by rw [hlo]; exact ha), hoe, List.getD_eq_getElem?_getD, List.getElem?_eq_getElem (by rw [hlo]; exact ha)]; rfl) ho
  refine Calls.mono h1 ?_
  rintro e w' ⟨rfl, h2⟩
  refine ⟨?_, h2⟩
  simp only [Int.toNat_natCast]
  rw [List.getD_eq_getElem?_getD, List.getElem?_eq_getElem ho]
  rfl
 ·rintro k c ⟨a, ha, rfl⟩ hc
  refine ⟨_, _, _, rfl, Tryd.func118, rfl, rfl, fun W' hb => ?_⟩
  have ho : oneOf out a < rows.length := by rw [hoe]; exact hone a ha
  have hw : rows[oneOf out a].length = wd := hcl.wide _ (List.getElem_mem _)
  have hq : rows[oneOf out a][c]'(by omega) < rows.length := hcl.lt _ (List.getElem_mem ho) _ (List.getElem_mem _)
  have er : (rows.map ints)[oneOf out a]'(by rw [List.length_map]; exact ho) = ints rows[oneOf out a] := by simp
  have h1 := m2 gG w.heap.size gO tapes start accs (rows.map ints) (ints out) (ints (onesTo out rows.length)) a (oneOf out a) c (rows[oneOf out a][c]'(by omega)) W' (hng.below hb) (hmach.below hb) (hno.below hb) (by rw [ints_length, hlo]; exact ha) (by rw [ints_get _ a _ (by rw [hlo]; exact ha), hoe, List.getD_eq_getElem?_getD, List.getElem?_eq_getElem (by rw [hlo]; exact ha)]; rfl) (by rw [List.length_map]; exact ho)
   (by rw [er, ints_length]; omega) (by simp only [er]; exact ints_get _ c _ (by omega)) (by rw [ints_length, hol]; exact hq)
  refine Calls.mono h1 ?_
  rintro e w' ⟨rfl, h2⟩
  refine ⟨?_, h2⟩
  simp only [Int.toNat_natCast]
  rw [ints_get _ _ _ (by rw [hol]; exact hq), List.getD_eq_getElem?_getD (l := rows), List.getElem?_eq_getElem ho]
  simp only [Option.getD_some, List.getD_eq_getElem?_getD]
  rw [List.getElem?_eq_getElem (show c < rows[oneOf out a].length by omega)]
  simp only [Option.getD_some]
  rw [List.getElem?_eq_getElem (by rw [hol]; exact hq)]
  rfl
end Go.Proofs.YtnjdkhnepmmfgaaDoor.Mg
namespace Go.Proofs.YtnjdkhnepmmfgaaDoor.Mg
set_option linter.unusedVariables false
set_option linter.unusedSimpArgs false
open Go.RowKit Go.Proofs.YtnjdkhnepmmfgaaDoorW.PrintWords Go.Proofs.YtnjdkhnepmmfgaaDoorW.PrintLast Go.Proofs.YtnjdkhnepmmfgaaDoorW.PrintMore Mp Kp Ky Fv Tdy Cl
set_option maxHeartbeats 8000000 in
set_option maxRecDepth 100000 in
theorem merged (T : Nat → ByteArray) (hT : ∀ n, (T n).size ≤ 20) (GI : World → Prop) (hGI : ∀ W W', GI W → Below W.heap.size W W' → GI W')
  (hItoa : ∀ W (n : Nat), GI W → n ≤ 1000000 → Calls Tryd.prog 115 #[.int .i64 (n : Int)] W fun e W' => e = .returned (.string (T n)) ∧ Below W.heap.size W W')
  (hinj : ∀ a b : List Nat, a ≠ [] → b ≠ [] → (∀ x ∈ a, x ≤ 1000000) → (∀ x ∈ b, x ≤ 1000000) → keyB T a = keyB T b → a = b)
  (tapes : Nat) (start : Nat) (accs : List Bool) (rows : List (List Nat)) (wd : Nat) (hwd2 : wd ≤ 30) (hcl : Closed wd rows accs) (hn : rows.length ≤ 1000000) (hst : start < rows.length)
  (hwd : ∀ W, Calls Tryd.prog 94 #[.int .i64 tapes] W fun e W' => e = .returned (.int .i64 wd) ∧ Below W.heap.size W W')
  (w : World) (hG : GI w) (AA : Option Addr) (ca : Nat) (AN : Option Addr) (cn : Nat) (hA : Kd.C Kd.bool w AA accs.length accs) (hN : Kd.C (Kd.slice 3 (Kd.int .i64)) w AN rows.length (rows.map ints)) (hca : accs.length ≤ ca) (hcn : rows.length ≤ cn)
  (f : Nat) (g : List Nat) (hg : classes rows f (first accs) 0 = some g) (f2 : Nat) (l : List Nat) (rws : List (List Nat)) (hr : byClass wd rows g (oneOf g) start f2 = some (some (l, rws))) :
  Calls Tryd.prog 109 #[.agg #[.int .i64 tapes, .int .i64 start, .slice AA accs.length ca, .slice AN rows.length cn]] w fun e w' => ∃ vA vN, e = .returned (.agg #[.int .i64 tapes, .int .i64 0, vA, vN]) ∧
   Kd.R Kd.bool 4 w' w.heap.size (fun _ => True) vA (l.map (fun a => accs.getD (oneOf g a) false)) ∧ Kd.R (Kd.slice 3 (Kd.int .i64)) 87 w' w.heap.size (fun _ => True) vN (rws.map ints) ∧ Below w.heap.size w w' := by
 have hmm := @run_makeMap Tryd.prog
 have hlen := Aside0.mk hcl.len
 have hn2 : accs.length ≤ 1000000 := by rw [← hcl.len]; exact hn
 go_enter Tryd.func109, Tryd.ntmps109
 go_wp2_with (first | ((with_reducible refine gate_dst (N := 24) rfl ?_); go_loud (refine Kd.R_make (Kd.int .i64) (w0 := w) w.heap.size 3 rfl (N := 24) rfl 87 _ _ rfl (accs.length : Int) rfl rfl Tryd.underlying87 (.int .i64 0) 8 GwI.info_int rfl (by decide) (by decide) (0 : Int) (ok := fun _ => True) (okp := fun _ => False) rfl (fun _ h => h.elim) trivial (by omega) (by have := hlen.out; simp; omega) (below_alloc (below_alloc (Below.refl _ _) _) _) (by simp <;> omega) ?_; intro v1 w1 hR1 hb1 hg1 hn1; simp only [Int.toNat_natCast] at hR1; obtain ⟨gr, cr, hv1, hgr, hgl, _⟩ := Kd.R_form hR1 (by have := hlen.out; simp; omega); subst hv1; have bM1 := (Keep.grown hg1).obj (blk_alloc (blk_new w (.cells #[.int .i64 (tapes : Int), .int .i64 (start : Int), .slice AA accs.length ca, .slice AN rows.length cn] 66)) (.cells #[.int .i64 0, .int .i64 0, .slice none 0 0, .slice none 0 0] 66)) (by simp); have bR1 := (Keep.grown hg1).obj (blk_at (w.alloc (.cells #[.int .i64 (tapes : Int), .int .i64 (start : Int), .slice AA accs.length ca, .slice AN rows.length cn] 66)) (.cells #[.int .i64 0, .int .i64 0, .slice none 0 0, .slice none 0 0] 66) (w.heap.size + 1) (by simp)) (by simp); have c12 : w1.cell? ⟨w.heap.size, 2, none⟩ = some (.slice AA accs.length ca) := (blk_cell bM1 2).trans rfl; have M2 : M w tapes start AA accs.length ca AN rows.length cn w1.heap.size (.slice (some ⟨gr, 0, none⟩) accs.length cr) (List.replicate accs.length 0) none (w1.alloc (.cells #[.slice (some ⟨gr, 0, none⟩) accs.length cr] 87)) := (by refine ⟨blk_alloc bM1 _, blk_alloc bR1 _, blk_new _ _, ?_, below_alloc hb1 _⟩; rw [ints_replicate]; simp only [List.length_replicate] at hR1; exact Kd.R_mono (Kd.R_below hR1 (below_alloc (Below.refl _ _) _)) (fun _ _ => ⟨trivial, by simp⟩)); have c22 : (w1.alloc (.cells #[.slice (some ⟨gr, 0, none⟩) accs.length cr] 87)).cell? ⟨w.heap.size, 2, none⟩ = some (.slice AA accs.length ca) := (blk_cell M2.bM 2).trans rfl; clear bM1 bR1 hR1 hn1 hb1 hg1)))
 have hw1s : Aside0 (w.heap.size ≤ w1.heap.size) := ⟨by have := M2.lt; have := M2.bel.size; omega⟩
 go_loopg [28] accs.length (fun kq v28 wr => ∃ (i : Nat) (grp : List Nat) (vG : Value), v28 = .int .i64 (i : Int) ∧ Aside0 (kq = accs.length - i) ∧ i ≤ accs.length ∧ Aside0 (grp = (first accs).take i ++ List.replicate (accs.length - i) 0) ∧ Aside0 (M w tapes start AA accs.length ca AN rows.length cn w1.heap.size vG grp none wr))
 case atStart => exact ⟨0, _, _, rfl, ⟨by simp⟩, Nat.zero_le _, ⟨by simp⟩, ⟨M2⟩⟩
 case round =>
  clear M2 hgl hgr
  obtain ⟨wo, rfl⟩ : ∃ wo : World, wo = wr := ⟨_, rfl⟩
  obtain ⟨i, grp, vG, rfl, hkq, hil, hgi, hM⟩ := hrel
  replace hM := hM.out
  by_cases hlt : i < accs.length
  ·have hgl : grp.length = accs.length := by rw [hgi.out]; simp [first]; omega
   obtain ⟨b, c, rfl, hbl, hbs, cells, hcells⟩ := Kd.R_form hM.grp (by rw [ints_length]; omega)
   rw [ints_length, hgl] at hM
   have cG : wo.cell? ⟨w1.heap.size, 0, none⟩ = some (.slice (some ⟨b, 0, none⟩) accs.length c) := (blk_cell hM.bG 0).trans rfl
   have k1 := num_at hM.grp (i := i) (by omega)
   have hstep := first_step accs hlt hgi.out
   obtain ⟨a2, rfl, k2⟩ := at_mark (Kd.C_below hA hM.bel) i hlt
   have f1 : wo.frozen? ⟨b, i, none⟩ = false := blk_frozen hcells i
   have hlt1 : ((i : Int) < (accs.length : Int)) = True := eq_true (by omega)
   have h0i : (0 ≤ (i : Int)) = True := eq_true (by omega)
   have hM1 := hM.put hbl i 1
   generalize hai : accs[i] = ai at *
   generalize grp[i] = gi at *
   clear hcells
   clear hgl
   have hst2 := Aside0.mk hstep
   clear hstep
   cases ai with
   | true =>
    go_wp2_with fail
    go_outline
    go_roundg (accs.length - (i + 1))
    case measure => have := hkq.out; omega
    case rel => exact ⟨i + 1, _, _, (by go_num), ⟨by simp⟩, by omega, ⟨by rw [hst2.out]; rfl⟩, ⟨hM1⟩⟩
   | false =>
    go_wp2_with fail
    go_roundg (accs.length - (i + 1))
    case measure => have := hkq.out; omega
    case rel => exact ⟨i + 1, _, _, (by go_num), ⟨by simp⟩, by omega, ⟨by rw [hst2.out]; rfl⟩, ⟨hM⟩⟩
  ·have hii : i = accs.length := by omega
   subst hii
   have hlt1 : ((accs.length : Int) < (accs.length : Int)) = False := eq_false (by omega)
   go_wp2_with fail
   have hgf : grp = first accs := by have h := hgi.out; have hl : (first accs).length = accs.length := (by simp [first]); rw [← hl, List.take_length, Nat.sub_self, List.replicate_zero, List.append_nil] at h; exact h
   have hgl : grp.length = rows.length := by rw [hgf, hlen.out]; simp [first]
   have hg1 : ∀ x ∈ grp, x ≤ 1000000 := by
    intro x hx
    rw [hgf] at hx
    obtain ⟨a, _, rfl⟩ := List.mem_map.1 hx
    split <;> omega
   have hgB := hM.bel
   have hgs : w.heap.size ≤ w1.heap.size := hw1s.out
   clear hgi hkq hil
   go_loopg [6] f (fun kf v6 wr => ∃ (m : Nat) (grp : List Nat) (vG : Value), v6 = .int .i64 (m : Int) ∧ m ≤ 1000000 ∧ Aside0 (classes rows kf grp m = some g) ∧ Aside0 (grp.length = rows.length) ∧ Aside0 (∀ x ∈ grp, x ≤ 1000000) ∧ Aside0 (M w tapes start AA accs.length ca AN rows.length cn w1.heap.size vG grp none wr))
   case atStart => exact ⟨0, grp, vG, rfl, Nat.zero_le _, ⟨by rw [hgf]; exact hg⟩, ⟨hgl⟩, ⟨hg1⟩, ⟨hM⟩⟩
   case round =>
    clear hM hgf hgl hg1 hgB grp vG
    obtain ⟨wo, rfl⟩ : ∃ wo : World, wo = wr := ⟨_, rfl⟩
    obtain ⟨m, grp, vG, rfl, hm, hcl2, hgl, hg1, hM⟩ := hrel
    replace hM := hM.out
    cases gk with
    | zero => exact absurd hcl2.out (by simp [classes])
    | succ kf =>
    have hgl2 := hgl.out
    obtain ⟨b, c, rfl, hbl, hbs, cells, hcells⟩ := Kd.R_form hM.grp (by rw [ints_length]; omega)
    rw [ints_length, hgl2] at hM
    clear hgl2 hbs hcells cells
    have hMa := hM.step (below_alloc (Below.refl _ _) (.map #[] 0))
    have cG : (wo.alloc (.map #[] 0)).cell? ⟨w1.heap.size, 0, none⟩ = some (.slice (some ⟨b, 0, none⟩) rows.length c) := (blk_cell hMa.bG 0).trans rfl
    have hmb := Below.size hM.bel
    go_wp2_with ((with_reducible refine gate_dst (N := 41) rfl ?_); go_loud (refine Kd.R_make (Kd.int .i64) (w0 := w) w.heap.size 3 rfl (N := 41) rfl 87 _ _ rfl (rows.length : Int) rfl rfl Tryd.underlying87 (.int .i64 0) 8 GwI.info_int rfl (by decide) (by decide) (0 : Int) (ok := fun k => True ∧ some k ≠ (Value.slice (some ⟨b, 0, none⟩) rows.length c).ownBlock) (okp := fun _ => False) rfl (fun _ h => h.elim) ⟨trivial, Kd.fresh_ok hMa.grp _ (Nat.le_refl _)⟩ (by omega) (by simp; omega) hMa.bel (by simp <;> omega) ?_; intro v2 w2 hR2 hb2 hg2 hn2; simp only [Int.toNat_natCast] at hR2; obtain ⟨gx, cx, hv2, hgx, hgxl, _⟩ := Kd.R_form hR2 (by simp; omega); subst hv2; rw [List.length_replicate] at hR2 hn2; have h2 := N.born (T := T) hMa hg2 hn2 hR2 hb2 (FMap.of_empty (blk_new _ _)) hmb; have c23 : w2.cell? ⟨w.heap.size, 3, none⟩ = some (.slice AN rows.length cn) := (blk_cell h2.m.bM 3).trans rfl; clear hR2 hg2 hn2))
    clear cG c23 hMa hM
    have hcg := Aside0.mk hgx
    go_loopg [45] rows.length (fun kq v45 wr => ∃ (i : Nat) (seen : List (List Nat)) (out : List Nat), v45 = .int .i64 (i : Int) ∧ Aside0 (kq = rows.length - i) ∧ i ≤ rows.length ∧ Aside0 (out.length = i) ∧ Aside0 (out ++ (number ((keys rows grp).drop i) seen).1 = (number (keys rows grp) []).1 ∧ (number ((keys rows grp).drop i) seen).2 = (number (keys rows grp) []).2) ∧ Aside0 (∀ a ∈ seen, a ≠ [] ∧ ∀ x ∈ a, x ≤ 1000000) ∧ seen.length ≤ i ∧ Aside0 (N T w tapes start AA accs.length ca AN rows.length cn w1.heap.size (.slice (some ⟨b, 0, none⟩) rows.length c) grp wo.heap.size seen (.slice (some ⟨gx, 0, none⟩) rows.length cx) (out ++ List.replicate (rows.length - i) 0) wr))
    case atStart => exact ⟨0, [], [], rfl, ⟨by simp⟩, Nat.zero_le _, ⟨rfl⟩, ⟨by simp⟩, ⟨fun a ha => by cases ha⟩, Nat.le_refl _, ⟨h2⟩⟩
    case round =>
     clear h2 hb2
     obtain ⟨wi, rfl⟩ : ∃ wi : World, wi = wr := ⟨_, rfl⟩
     obtain ⟨i, seen, out, rfl, hkq, hil, hol, HN, hse, hsl, hS⟩ := hrel
     replace hS := hS.out
     by_cases hlt : i < rows.length
     ·obtain ⟨ad, rfl, A', c', k1, k2, k3⟩ := at_row (Kd.C_below hN hS.m.bel) i (by simpa using hlt)
      have er : (rows.map ints)[i]'(by simpa using hlt) = ints rows[i] := by simp
      rw [er, ints_length] at k1 k2 k3
      have hrl : rows[i].length = wd := hcl.wide _ (List.getElem_mem hlt)
      have hrm : ∀ x ∈ rows[i], x < rows.length := hcl.lt _ (List.getElem_mem hlt)
      rw [hrl] at k1 k2 k3
      have HK : Tdy.keyOf rows grp i = grp.getD i 0 :: rows[i].map (fun p => grp.getD p 0) := by simp [Tdy.keyOf, List.getD, List.getElem?_eq_getElem hlt]
      have hgi : i < grp.length := by rw [hgl.out]; exact hlt
      have cG : wi.cell? ⟨w1.heap.size, 0, none⟩ = some (.slice (some ⟨b, 0, none⟩) rows.length c) := (blk_cell hS.m.bG 0).trans rfl
      have k4 := num_at hS.m.grp (i := i) hgi
      have hgd : grp.getD i 0 = grp[i] := by simp [List.getD, List.getElem?_eq_getElem hgi]
      have hgle : grp[i] ≤ 1000000 := hg1.out _ (List.getElem_mem hgi)
      have HD := Aside0.mk (keys_drop rows grp hlt)
      have HK2 := Aside0.mk HK
      have hgd2 := Aside0.mk hgd
      have hrm2 := Aside0.mk hrm
      have hrl2 := Aside0.mk hrl
      clear er HK hgd hrm hrl
      generalize rows[i] = ri at *
      generalize grp[i] = gi at *
      have hlt1 : ((i : Int) < (rows.length : Int)) = True := eq_true (by omega)
      have h0i : (0 ≤ (i : Int)) = True := eq_true (by omega)
      go_wp2_with (go_at_call 115; (with_reducible refine (hItoa _ _ (hGI _ _ hG hS.m.bel) hgle).mono ?_); rintro e w3 ⟨rfl, hb3⟩; have h3 := hS.step hb3)
      clear cG k1 k4
      go_loopg [11, 57] wd (fun kq v11 v57 wq => ∃ j : Nat, v11 = .string (keyF T (T gi) ((ri.take j).map (fun p => grp.getD p 0))) ∧ v57 = .int .i64 (j : Int) ∧ Aside0 (kq = wd - j) ∧ j ≤ wd ∧ Aside0 (Below wi.heap.size wi wq) ∧ Aside0 (N T w tapes start AA accs.length ca (some ad) rows.length cn w1.heap.size (.slice (some ⟨b, 0, none⟩) rows.length c) grp wo.heap.size seen (.slice (some ⟨gx, 0, none⟩) rows.length cx) (out ++ List.replicate (rows.length - i) 0) wq))
      case atStart => exact ⟨0, (by simp [keyF]), rfl, ⟨by simp⟩, Nat.zero_le _, ⟨hb3⟩, ⟨h3⟩⟩
      case round =>
       clear h3 hb3
       obtain ⟨j, rfl, rfl, hkj, hjl, hbq, hQ⟩ := hrel
       replace hQ := hQ.out
       by_cases hjt : j < wd
       ·have hrl := hrl2.out
        obtain ⟨a2, rfl, m1⟩ := at_num (Kd.C_below k3 hbq.out) j (by rw [ints_length]; omega)
        rw [ints_get ri j _ (by omega)] at m1
        have hto : ri[j]'(by omega) < rows.length := hrm2.out _ (List.getElem_mem _)
        have cG : wr.cell? ⟨w1.heap.size, 0, none⟩ = some (.slice (some ⟨b, 0, none⟩) rows.length c) := (blk_cell hQ.m.bG 0).trans rfl
        have hgt : ri[j]'(by omega) < grp.length := by rw [hgl.out]; exact hto
        have m2 := num_at hQ.m.grp hgt
        have hgle2 : grp[ri[j]'(by omega)] ≤ 1000000 := hg1.out _ (List.getElem_mem _)
        have htk : (ri.take (j + 1)).map (fun p => grp.getD p 0) = (ri.take j).map (fun p => grp.getD p 0) ++ [grp[ri[j]'(by omega)]] := by
         rw [List.take_succ_eq_append_getElem (by omega), List.map_append]
         simp [List.getD, List.getElem?_eq_getElem hgt]
        have hsz : (keyF T (T gi) ((ri.take j).map (fun p => grp.getD p 0))).size ≤ 20 + 21 * 30 := by
         have h1 := keyF_size T hT (T gi) ((ri.take j).map (fun p => grp.getD p 0))
         have h2 := hT gi
         rw [List.length_map, List.length_take] at h1
         omega
        have htk2 := Aside0.mk htk
        have hrl3 := Aside0.mk hrl
        have hgt3 := Aside0.mk hgt
        clear htk
        generalize grp[ri[j]'(by omega)] = gt at *
        have hz2 := hT gt
        clear hgt
        generalize ri[j]'(by omega) = tq at *
        clear hrl
        generalize hkk : keyF T (T gi) ((ri.take j).map (fun p => grp.getD p 0)) = ks at *
        have hkk2 := Aside0.mk hkk
        clear hkk
        have hlt1 : ((j : Int) < (wd : Int)) = True := eq_true (by omega)
        have hlt2 : ((tq : Int) < (rows.length : Int)) = True := eq_true (by omega)
        have h0i : (0 ≤ (j : Int)) = True := eq_true (by omega)
        have h0t : (0 ≤ (tq : Int)) = True := eq_true (by omega)
        go_wp2_with (go_at_call 115; (with_reducible refine (hItoa _ _ (hGI _ _ hG hQ.m.bel) hgle2).mono ?_); rintro e w5 ⟨rfl, hb5⟩; have h5 := hQ.step hb5; have hb6 := below_step hbq.out hb5)
        go_roundg (wd - (j + 1))
        case measure => have := hkj.out; omega
        case rel => exact ⟨j + 1, (by rw [htk2.out, keyF_snoc, hkk2.out]), (by go_num), ⟨by simp⟩, by omega, ⟨hb6⟩, ⟨h5⟩⟩
       ·have hjj : j = wd := by omega
        subst hjj
        have hrl := hrl2.out
        have ek : keyF T (T gi) ((ri.take j).map (fun p => grp.getD p 0)) = keyB T (Tdy.keyOf rows grp i) := by
         rw [HK2.out, hgd2.out, ← hrl, List.take_length]
         rfl
        rw [ek]
        have hKn : Tdy.keyOf rows grp i ≠ [] := by rw [HK2.out]; simp
        have hKl : Aside0 (∀ x ∈ Tdy.keyOf rows grp i, x ≤ 1000000) := by
         have hd0 : ∀ p, grp.getD p 0 ≤ 1000000 := fun p => by
          by_cases hp : p < grp.length
          ·rw [List.getD_eq_getElem?_getD, List.getElem?_eq_getElem hp]
           exact hg1.out _ (List.getElem_mem hp)
          ·rw [List.getD_eq_getElem?_getD, List.getElem?_eq_none (by omega)]
           exact Nat.zero_le _
         refine ⟨fun x hx => ?_⟩
         rw [HK2.out] at hx
         rcases List.mem_cons.1 hx with rfl | hx
         ·exact hd0 i
         ·obtain ⟨p, _, rfl⟩ := List.mem_map.1 hx
          exact hd0 p
        have hKs : (keyB T (Tdy.keyOf rows grp i)).size ≤ 650 := by
         rw [← ek]
         have h1 := keyF_size T hT (T gi) ((ri.take j).map (fun p => grp.getD p 0))
         have h2 := hT gi
         rw [List.length_map, List.length_take] at h1
         omega
        have hlt1 : ((j : Int) < (j : Int)) = False := eq_false (by omega)
        have hkey := string_key (s := keyB T (Tdy.keyOf rows grp i)) (by unfold maxLen; omega)
        have hol2 := hol.out
        have hnl : (out ++ List.replicate (rows.length - i) 0).length = rows.length := by simp; omega
        clear ek hrl
        generalize hKK : Tdy.keyOf rows grp i = K at *
        have HKK := Aside0.mk hKK
        clear hKK
        have HD2 := HD.out
        have HN2 := HN.out
        rw [HD2] at HN2
        cases hf : find id K seen with
        | some jd =>
         have hmem := ents_hit (T := T) hf
         rw [number_hit hf] at HN2
         have HN3 := Aside0.mk HN2
         obtain ⟨hjd, _⟩ := find_some hf
         clear HN2 HD2 hol2 hf HN
         obtain ⟨hbx, cells, hcx⟩ := row_blk hQ.nxt (by rw [ints_length, hnl]; omega)
         have k6 := num_at hQ.nxt (i := i) (by omega)
         have f6 : wr.frozen? ⟨gx, i, none⟩ = false := blk_frozen hcx i
         generalize (out ++ List.replicate (rows.length - i) 0)[i]'(by omega) = oi at *
         clear hcx cells hnl
         have h8 := hQ.set hbx i jd
         go_wp2_with ((with_reducible refine gate_dst (N := 73) rfl ?_); go_loud (refine at_hit hQ.map string_law rfl _ _ 138 3 rfl Tryd.underlying138 (zero_int _) rfl _ _ rfl hmem ?_))
         go_roundg (rows.length - (i + 1))
         case measure => have := hkq.out; omega
         case rel => exact ⟨i + 1, seen, out ++ [jd], (by go_num), ⟨by simp⟩, by omega, ⟨by simp [hol.out]⟩, ⟨by rw [List.append_assoc]; exact HN3.out⟩, hse, by omega, ⟨by rw [← out_step out jd hol.out hlt]; exact h8⟩⟩
        | none =>
         have hmiss := ents_miss (T := T) (fun a ha e => hinj a K (hse.out a ha).1 hKn (hse.out a ha).2 hKl.out e) hf
         rw [number_miss hf] at HN2
         have HN3 := Aside0.mk HN2
         clear HN2 HD2 hol2 hf HN
         go_wp2_with (first
          | ((with_reducible refine gate_dst (N := 73) rfl ?_); go_loud (refine at_miss hQ.map string_law rfl _ _ 138 3 rfl Tryd.underlying138 (zero_int _) rfl _ hkey rfl hmiss ?_))
          | ((with_reducible refine gate_dst (N := 79) rfl ?_); go_loud (refine at_size hQ.map rfl _ 138 3 rfl Tryd.underlying138 rfl ?_; rw [ents_length]))
          | (at_mapUpdate; go_loud (refine at_put hQ.map string_law rfl _ _ _ 138 3 (Or.inl rfl) Tryd.underlying138 (by rw [ents_length]; unfold maxLen; omega) rfl _ (.int .i64 (seen.length : Int)) hkey rfl rfl hmiss ?_; intro w7 hF7 hg7; have hF8 : FMap Tryd.prog 9 w7 wo.heap.size (ents T (seen ++ [K])) := (by rw [ents_snoc]; exact hF7); clear hF7; have h7 := hQ.put hg7 hF8; obtain ⟨hbx, cells, hcx⟩ := row_blk h7.nxt (by rw [ints_length, hnl]; omega); have k6 := num_at h7.nxt (i := i) (by omega); have f6 : w7.frozen? ⟨gx, i, none⟩ = false := blk_frozen hcx i; generalize (out ++ List.replicate (rows.length - i) 0)[i]'(by omega) = oi at *; clear hcx cells; have h8 := h7.set hbx i seen.length)))
         go_roundg (rows.length - (i + 1))
         case measure => have := hkq.out; omega
         case rel => exact ⟨i + 1, seen ++ [K], out ++ [seen.length], (by go_num), ⟨by simp⟩, by omega, ⟨by simp [hol.out]⟩, ⟨by rw [List.append_assoc]; exact HN3.out⟩, ⟨fun a ha => (List.mem_append.1 ha).elim (hse.out a) (fun h => by rw [List.mem_singleton.1 h]; exact ⟨hKn, hKl.out⟩)⟩, (by simp; omega), ⟨by rw [← out_step out seen.length hol.out hlt]; exact h8⟩⟩
     ·have hii : i = rows.length := by omega
      subst i
      have HN2 := HN.out
      rw [List.drop_of_length_le (by rw [keys_length]; exact Nat.le_refl _)] at HN2
      simp only [number, List.append_nil] at HN2
      obtain ⟨ho, hs⟩ := HN2
      have hnl : out ++ List.replicate (rows.length - rows.length) 0 = out := by simp
      rw [hnl] at hS
      clear hnl
      have hbG := hS.m.bG
      have cG : wi.cell? ⟨w1.heap.size, 0, none⟩ = some (.slice (some ⟨b, 0, none⟩) rows.length c) := (blk_cell hbG 0).trans rfl
      have fG : wi.frozen? ⟨w1.heap.size, 0, none⟩ = false := blk_frozen hbG 0
      obtain ⟨hM2, hF2⟩ := hS.turn hw1s.out
      have hlt1 : ((rows.length : Int) < (rows.length : Int)) = False := eq_false (by omega)
      obtain ⟨hn1, _, hn3, hn4⟩ := number_lt (keys rows grp) []
      rw [← ho, ← hs] at hn4
      rw [← hs, keys_length, List.length_nil, Nat.zero_add] at hn1
      have hx1 : ∀ x ∈ out, x < seen.length := hn4
      have hc2 := hcl2.out
      rw [classes, ← ho, ← hs] at hc2
      clear ho hs hn3 hn4 hbG HN hkq
      by_cases hsm : seen.length = m
      ·rw [if_pos hsm] at hc2
       obtain rfl := Option.some.inj hc2
       have he1 : ((seen.length : Int) == (m : Int)) = true := beq_iff_eq.2 (by omega)
       have hgx1 := Aside0.mk hx1
       have hsn := Aside0.mk hn1
       clear hc2 hsm hx1
       have hol2 := hol.out
       go_wp2_with (first
        | ((with_reducible refine gate_dst (N := 90) rfl ?_); go_loud (refine at_size hF2 rfl _ 138 3 rfl Tryd.underlying138 rfl ?_; rw [ents_length]))
        | ((with_reducible refine gate_dst (N := 97) rfl ?_); go_loud (refine Kd.R_make (Kd.int .i64) (w0 := w) w.heap.size 3 rfl (N := 97) rfl 87 _ _ rfl (rows.length : Int) rfl rfl Tryd.underlying87 (.int .i64 0) 8 GwI.info_int rfl (by decide) (by decide) (0 : Int) (ok := fun k => True ∧ some k ≠ (Value.slice (some ⟨gx, 0, none⟩) rows.length cx).ownBlock) (okp := fun _ => False) rfl (fun _ h => h.elim) ⟨trivial, Kd.fresh_ok hM2.grp _ (Nat.le_refl _)⟩ (by omega) (by simp; omega) hM2.bel (Below.size hM2.bel) ?_; intro v3 w3 hR3 hb3 hg3 hn3; simp only [Int.toNat_natCast] at hR3; obtain ⟨gy, cy, hv3, hgy, hgyl, _⟩ := Kd.R_form hR3 (by simp; omega); subst hv3; rw [List.length_replicate] at hR3 hn3; have h3 := O.born hM2 hg3 hn3 hR3 hb3; clear hR3 hn3 hg3; have c33 : (w3.alloc (.cells #[.slice (some ⟨gy, 0, none⟩) rows.length cy] 87)).cell? ⟨w1.heap.size, 0, none⟩ = some (.slice (some ⟨gx, 0, none⟩) rows.length cx) := (blk_cell h3.m.bG 0).trans rfl)))
       have h4 : O w tapes start AA accs.length ca AN rows.length cn w1.heap.size (.slice (some ⟨gx, 0, none⟩) rows.length cx) out w3.heap.size (.slice (some ⟨gy, 0, none⟩) rows.length cy) (onesTo out 0) (w3.alloc (.cells #[.slice (some ⟨gy, 0, none⟩) rows.length cy] 87)) := by
        have e : onesTo out 0 = List.replicate rows.length 0 := by simp [onesTo, hol2]
        rw [e]
        exact h3
       have hgO : w.heap.size ≤ w3.heap.size := Below.size hb3
       have hol3 := Aside0.mk hol2
       clear cG fG hS hF2 hsl hse hcl2 hgl hg1 hol hm h3 c33 hM2 hol2 hb3 he1 hn1
       go_loopg [100] rows.length (fun kq v100 wr => ∃ i : Nat, v100 = .int .i64 (i : Int) ∧ Aside0 (kq = rows.length - i) ∧ i ≤ rows.length ∧ Aside0 (O w tapes start AA accs.length ca AN rows.length cn w1.heap.size (.slice (some ⟨gx, 0, none⟩) rows.length cx) out w3.heap.size (.slice (some ⟨gy, 0, none⟩) rows.length cy) (onesTo out i) wr))
       case atStart => exact ⟨0, rfl, ⟨by simp⟩, Nat.zero_le _, ⟨h4⟩⟩
       case round =>
        clear h4
        obtain ⟨i, rfl, hkq, hil, hO⟩ := hrel
        replace hO := hO.out
        have hol2 := hol3.out
        by_cases hlt : i < rows.length
        ·have hgi : i < out.length := by rw [hol2]; exact hlt
         have k1 := num_at hO.m.grp hgi
         have hgd : out.getD i 0 = out[i] := by simp [List.getD, List.getElem?_eq_getElem hgi]
         have hgl : out[i] < rows.length := by have := hgx1.out _ (List.getElem_mem hgi); have := hsn.out; omega
         have hln : (onesTo out i).length = rows.length := by rw [onesTo_length, hol2]
         have cO : wr.cell? ⟨w3.heap.size, 0, none⟩ = some (.slice (some ⟨gy, 0, none⟩) rows.length cy) := (blk_cell hO.bO 0).trans rfl
         have k2 := num_at hO.row (i := out[i]) (by rw [hln]; exact hgl)
         obtain ⟨hby, cells, hcy⟩ := row_blk hO.row (by rw [ints_length, hln]; omega)
         have f2 : wr.frozen? ⟨gy, out[i], none⟩ = false := blk_frozen hcy out[i]
         have h5 := hO.set hby out[i] i
         have e5 : (onesTo out i).set out[i] i = onesTo out (i + 1) := by rw [onesTo_succ, hgd]
         rw [e5] at h5
         have hgd2 := Aside0.mk hgd
         clear hcy cells hgd e5
         generalize (onesTo out i)[out[i]]'_ = oi at *
         clear hln
         generalize out[i] = gi at *
         clear hgi hol2
         have hlt1 : ((i : Int) < (rows.length : Int)) = True := eq_true (by omega)
         have hlt2 : ((gi : Int) < (rows.length : Int)) = True := eq_true (by omega)
         have h0i : (0 ≤ (i : Int)) = True := eq_true (by omega)
         have h0g : (0 ≤ (gi : Int)) = True := eq_true (by omega)
         go_wp2_with fail
         go_roundg (rows.length - (i + 1))
         case measure => have := hkq.out; omega
         case rel => exact ⟨i + 1, (by go_num), ⟨by simp⟩, by omega, ⟨h5⟩⟩
        ·have hii : i = rows.length := by omega
         subst i
         have hlt1 : ((rows.length : Int) < (rows.length : Int)) = False := eq_false (by omega)
         go_wp2_with fail
         have hsg : start < out.length := by rw [hol2]; exact hst
         obtain ⟨s0, hs0⟩ : ∃ s0 : Nat, Aside0 (out.getD start 0 = s0) := ⟨_, ⟨rfl⟩⟩
         have hs1 : Aside0 (out[start] = s0) := ⟨by rw [← hs0.out, List.getD_eq_getElem?_getD, List.getElem?_eq_getElem hsg]; rfl⟩
         have hxn : Aside0 (∀ x ∈ out, x < rows.length) := ⟨fun x hx => by have := hgx1.out x hx; have := hsn.out; omega⟩
         have hlt3 : ((start : Int) < (rows.length : Int)) = True := eq_true (by omega)
         have h0s : (0 ≤ (start : Int)) = True := eq_true (by omega)
         have hOd := hO.step (below_drew1 (Below.refl _ _))
         have hSS : ∀ W', O w tapes start AA accs.length ca AN rows.length cn w1.heap.size (.slice (some ⟨gx, 0, none⟩) rows.length cx) out w3.heap.size (.slice (some ⟨gy, 0, none⟩) rows.length cy) (onesTo out rows.length) W' → (fun w' => w'.cell? ⟨w.heap.size, 0, none⟩ = some (.int .i64 (tapes : Int)) ∧ w'.cell? ⟨w1.heap.size, 0, none⟩ = some (.slice (some ⟨gx, 0, none⟩) rows.length cx) ∧ w'.cell? ⟨w.heap.size, 1, none⟩ = some (.int .i64 (start : Int)) ∧ w'.cell? ⟨gx, start, none⟩ = some (.int .i64 (s0 : Int))) W' := fun W' h => ⟨(blk_cell h.m.bM 0).trans rfl, (blk_cell h.m.bG 0).trans rfl, (blk_cell h.m.bM 1).trans rfl, by have := num_at h.m.grp hsg; rw [hs1.out] at this; exact this⟩
         have hcall : ∀ W', O w tapes start AA accs.length ca AN rows.length cn w1.heap.size (.slice (some ⟨gx, 0, none⟩) rows.length cx) out w3.heap.size (.slice (some ⟨gy, 0, none⟩) rows.length cy) (onesTo out rows.length) W' → _ := fun W' h => grown tapes start accs rows wd hwd2 hcl hn hst hwd w W' AA ca AN cn hA hN hca hcn out hol3.out hxn.out w1.heap.size w3.heap.size cx gx cy gy h f2 l rws hr
         simp only [hs0.out] at hcall
         refine start_ (n := 16) (S := fun w' => w'.cell? ⟨w.heap.size, 0, none⟩ = some (.int .i64 (tapes : Int)) ∧ w'.cell? ⟨w1.heap.size, 0, none⟩ = some (.slice (some ⟨gx, 0, none⟩) rows.length cx) ∧ w'.cell? ⟨w.heap.size, 1, none⟩ = some (.int .i64 (start : Int)) ∧ w'.cell? ⟨gx, start, none⟩ = some (.int .i64 (s0 : Int))) (ds := [14]) (.replicate 16 false) (by kernel_rfl) rfl rfl (hSS _ hOd) (fun hHeld => ?_)
         refine pure_ (i := 0) (N := some 111) (v := ?_) (a' := ?_) (zb 16 1) rfl rfl (by kernel_rfl) (fun _ _ _ h => h) (Or.inl ⟨by rfl, ?_⟩) ?_ ?_
         rotate_left
         ·intro w'
          go_simp
          with_reducible rfl
         rotate_left
         ·simp only [Act.put, Za, Zb, Zc, i64_w, i32_w]
          rfl
         refine pure_ (i := 3) (N := some 114) (v := ?_) (a' := ?_) (zb 16 9) rfl rfl (by kernel_rfl) (fun _ _ _ h => h) (Or.inl ⟨by rfl, ?_⟩) ?_ ?_
         rotate_left
         ·intro w'
          go_simp
          with_reducible rfl
         rotate_left
         ·simp only [Act.put, Za, Zb, Zc, i64_w, i32_w]
          rfl
         refine pure_ (i := 7) (N := some 118) (v := ?_) (a' := ?_) (zb 16 137) rfl rfl (by kernel_rfl) (fun _ _ _ h => h) (Or.inl ⟨by rfl, ?_⟩) ?_ ?_
         rotate_left
         ·intro w'
          go_simp
          with_reducible rfl
         rotate_left
         ·simp only [Act.put, Za, Zb, Zc, i64_w, i32_w]
          rfl
         refine pure_ (i := 8) (N := some 119) (v := ?_) (a' := ?_) (zb 16 393) rfl rfl (by kernel_rfl) (fun _ _ _ h => h) (Or.inl ⟨by rfl, ?_⟩) ?_ ?_
         rotate_left
         ·intro w'
          go_simp
          with_reducible rfl
         rotate_left
         ·simp only [Act.put, Za, Zb, Zc, i64_w, i32_w]
          rfl
         refine take_ (i := 1) (N := some 112) (v := ?_) (a' := ?_) (zb 16 395) rfl rfl (by kernel_rfl) (fun _ _ _ h => h) (Or.inl ⟨by rfl, ?_⟩) hHeld ?_ ?_
         rotate_left
         ·rintro w' ⟨s1, s2, s3, s4⟩
          go_simp
          with_reducible rfl
         rotate_left
         ·simp only [Act.put, Za, Zb, Zc, i64_w, i32_w]
          rfl
         refine take_ (i := 2) (N := some 113) (v := ?_) (a' := ?_) (zb 16 399) rfl rfl (by kernel_rfl) (fun _ _ _ h => h) (Or.inl ⟨by rfl, ?_⟩) hHeld ?_ ?_
         rotate_left
         ·rintro w' ⟨s1, s2, s3, s4⟩
          go_simp
          with_reducible rfl
         rotate_left
         ·simp only [Act.put, Za, Zb, Zc, i64_w, i32_w]
          rfl
         refine take_ (i := 4) (N := some 115) (v := ?_) (a' := ?_) (zb 16 415) rfl rfl (by kernel_rfl) (fun _ _ _ h => h) (Or.inl ⟨by rfl, ?_⟩) hHeld ?_ ?_
         rotate_left
         ·rintro w' ⟨s1, s2, s3, s4⟩
          go_simp
          with_reducible rfl
         rotate_left
         ·simp only [Act.put, Za, Zb, Zc, i64_w, i32_w]
          rfl
         refine pure_ (i := 5) (N := some 116) (v := ?_) (a' := ?_) (zb 16 447) rfl rfl (by kernel_rfl) (fun _ _ _ h => h) (Or.inl ⟨by rfl, ?_⟩) ?_ ?_
         rotate_left
         ·intro w'
          go_simp
          with_reducible rfl
         rotate_left
         ·simp only [Act.put, Za, Zb, Zc, i64_w, i32_w]
          rfl
         refine take_ (i := 6) (N := some 117) (v := ?_) (a' := ?_) (zb 16 511) rfl rfl (by kernel_rfl) (fun _ _ _ h => h) (Or.inl ⟨by rfl, ?_⟩) hHeld ?_ ?_
         rotate_left
         ·rintro w' ⟨s1, s2, s3, s4⟩
          go_simp
          with_reducible rfl
         rotate_left
         ·simp only [Act.put, Za, Zb, Zc, i64_w, i32_w]
          rfl
         refine join_ (σ := Value × Value × Nat) 2 #[true, true, true, true, true, true, true, true, true, true, true, true, true, true, false, false] (fun s => [(120, .tuple #[.agg #[.int .i64 (tapes : Int), .int .i64 0, s.1, s.2.1], .bool true]), (110, .tuple #[.agg #[.int .i64 (tapes : Int), .int .i64 0, s.1, s.2.1], .bool true]), (121, .agg #[.int .i64 (tapes : Int), .int .i64 0, s.1, s.2.1]), (122, .bool true), (19, .pointer (some ⟨s.2.2, 0, none⟩))])
          (fun s w' => O w tapes start AA accs.length ca AN rows.length cn w1.heap.size (.slice (some ⟨gx, 0, none⟩) rows.length cx) out w3.heap.size (.slice (some ⟨gy, 0, none⟩) rows.length cy) (onesTo out rows.length) w' ∧ Kd.R Kd.bool 4 w' w.heap.size (fun _ => True) s.1 (l.map (fun a => accs.getD (oneOf out a) false)) ∧ Kd.R (Kd.slice 3 (Kd.int .i64)) 87 w' w.heap.size (fun _ => True) s.2.1 (rws.map ints) ∧ w'.heap[s.2.2]? = some (.cells #[.int .i64 0, .int .i64 0, .slice none 0 0, .slice none 0 0] 66 (0, 0)) ∧ w.heap.size + 1 < s.2.2) ?_ ?_
         rotate_left
         ·intro hCont
          refine two_ (i := 9) (j := 13) (Ni := some 120) (Nj := some 19) #[true, true, true, true, true, true, true, true, true, true, false, false, false, false, false, false] #[true, true, true, true, true, true, true, true, true, false, false, false, false, true, false, false] rfl rfl rfl rfl (by kernel_rfl) (by decide) (by decide) (fun K hK => ?_) (fun K hK => ?_)
          ·skip
           refine goes_ Tryd.func116 (by kernel_rfl) rfl #[.int .i64 (tapes : Int), .int .i64 (s0 : Int), .int .i64 0, .func (.func 117) #[] #[.pointer (some ⟨w.heap.size, 0, none⟩), .pointer (some ⟨w3.heap.size, 0, none⟩)], .func (.func 118) #[] #[.pointer (some ⟨w1.heap.size, 0, none⟩), .pointer (some ⟨w.heap.size, 0, none⟩), .pointer (some ⟨w3.heap.size, 0, none⟩)]] (by rfl) rfl rfl (by (try simp only [List.map_toArray, List.map_cons, List.map_nil]); first | done | rfl) ?_
           with_reducible refine (hcall _ hOd).mono ?_
           rintro e w6 ⟨vA, vN, rfl, r1, r2, hb6⟩
           refine ⟨_, rfl, ?_⟩
           have h6 := hOd.step hb6
           have q1 := Kd.R_lower r1 (Below.size hOd.m.bel)
           have q2 := Kd.R_lower r2 (Below.size hOd.m.bel)
           refine hK.out _ _ (hSS _ h6) (fun hHeld => ?_)
           clear hK K
           refine norm_ (a' := ?_) ?_ ?_
           rotate_left
           ·show Act.put _ (some 120) _ = _
            simp only [Act.put, Za, Zb, Zc, i64_w, i32_w]
            rfl
           refine pure_ (i := 10) (N := some 110) (v := ?_) (a' := ?_) (zb 16 2047) rfl rfl (by kernel_rfl) (fun _ _ _ h => h) (Or.inl ⟨by rfl, ?_⟩) ?_ ?_
           rotate_left
           ·intro w'
            go_simp
            with_reducible rfl
           rotate_left
           ·simp only [Act.put, Za, Zb, Zc, i64_w, i32_w]
            rfl
           refine pure_ (i := 11) (N := some 121) (v := ?_) (a' := ?_) (zb 16 4095) rfl rfl (by kernel_rfl) (fun _ _ _ h => h) (Or.inl ⟨by rfl, ?_⟩) ?_ ?_
           rotate_left
           ·intro w'
            go_simp
            with_reducible rfl
           rotate_left
           ·simp only [Act.put, Za, Zb, Zc, i64_w, i32_w]
            rfl
           refine pure_ (i := 12) (N := some 122) (v := ?_) (a' := ?_) (zb 16 8191) rfl rfl (by kernel_rfl) (fun _ _ _ h => h) (Or.inl ⟨by rfl, ?_⟩) ?_ ?_
           rotate_left
           ·intro w'
            go_simp
            with_reducible rfl
           rotate_left
           ·simp only [Act.put, Za, Zb, Zc, i64_w, i32_w]
            rfl
           refine one_ (i := 13) (N := some 19) (zb 16 16383) rfl rfl (by kernel_rfl) (by decide) (fun K hK => ?_)
           refine value_ (w1 := w6.alloc (.cells #[.int .i64 0, .int .i64 0, .slice none 0 0, .slice none 0 0] 66)) (v := .pointer (some ⟨w6.heap.size, 0, none⟩)) (by rfl) rfl (by first | (go_simp; done) | (go_simp; rfl)) ?_
           have h7 := h6.step (below_alloc (Below.refl _ _) (.cells #[.int .i64 0, .int .i64 0, .slice none 0 0, .slice none 0 0] 66))
           refine hK.out _ _ (hSS _ h7) (fun hHeld => ?_)
           clear hK K
           refine norm_ (a' := ?_) ?_ ?_
           rotate_left
           ·show Act.put _ (some 19) _ = _
            simp only [Act.put, Za, Zb, Zc, i64_w, i32_w]
            rfl
           exact norm_ (by simp only [putAll, Act.put, List.setIfInBounds_toArray, List.set_cons_zero, List.set_cons_succ]) (hCont (vA, vN, w6.heap.size) _ ⟨h7, Kd.R_below q1 (below_alloc (Below.refl _ _) _), Kd.R_below q2 (below_alloc (Below.refl _ _) _), blk_new _ _, h6.m.lt⟩)
          ·skip
           refine value_ (w1 := wr.drew.alloc (.cells #[.int .i64 0, .int .i64 0, .slice none 0 0, .slice none 0 0] 66)) (v := .pointer (some ⟨wr.drew.heap.size, 0, none⟩)) (by rfl) rfl (by first | (go_simp; done) | (go_simp; rfl)) ?_
           have h6 := hOd.step (below_alloc (Below.refl _ _) (.cells #[.int .i64 0, .int .i64 0, .slice none 0 0, .slice none 0 0] 66))
           refine hK.out _ _ (hSS _ h6) (fun hHeld => ?_)
           clear hK K
           refine norm_ (a' := ?_) ?_ ?_
           rotate_left
           ·show Act.put _ (some 19) _ = _
            simp only [Act.put, Za, Zb, Zc, i64_w, i32_w]
            rfl
           refine one_ (i := 9) (N := some 120) (zb 16 9215) rfl rfl (by kernel_rfl) (by decide) (fun K hK => ?_)
           refine goes_ Tryd.func116 (by kernel_rfl) rfl #[.int .i64 (tapes : Int), .int .i64 (s0 : Int), .int .i64 0, .func (.func 117) #[] #[.pointer (some ⟨w.heap.size, 0, none⟩), .pointer (some ⟨w3.heap.size, 0, none⟩)], .func (.func 118) #[] #[.pointer (some ⟨w1.heap.size, 0, none⟩), .pointer (some ⟨w.heap.size, 0, none⟩), .pointer (some ⟨w3.heap.size, 0, none⟩)]] (by rfl) rfl rfl (by (try simp only [List.map_toArray, List.map_cons, List.map_nil]); first | done | rfl) ?_
           with_reducible refine (hcall _ h6).mono ?_
           rintro e w7 ⟨vA, vN, rfl, r1, r2, hb6⟩
           refine ⟨_, rfl, ?_⟩
           have h7 := h6.step hb6
           have q1 := Kd.R_lower r1 (Below.size h6.m.bel)
           have q2 := Kd.R_lower r2 (Below.size h6.m.bel)
           refine hK.out _ _ (hSS _ h7) (fun hHeld => ?_)
           clear hK K
           refine norm_ (a' := ?_) ?_ ?_
           rotate_left
           ·show Act.put _ (some 120) _ = _
            simp only [Act.put, Za, Zb, Zc, i64_w, i32_w]
            rfl
           refine pure_ (i := 10) (N := some 110) (v := ?_) (a' := ?_) (zb 16 10239) rfl rfl (by kernel_rfl) (fun _ _ _ h => h) (Or.inl ⟨by rfl, ?_⟩) ?_ ?_
           rotate_left
           ·intro w'
            go_simp
            with_reducible rfl
           rotate_left
           ·simp only [Act.put, Za, Zb, Zc, i64_w, i32_w]
            rfl
           refine pure_ (i := 11) (N := some 121) (v := ?_) (a' := ?_) (zb 16 12287) rfl rfl (by kernel_rfl) (fun _ _ _ h => h) (Or.inl ⟨by rfl, ?_⟩) ?_ ?_
           rotate_left
           ·intro w'
            go_simp
            with_reducible rfl
           rotate_left
           ·simp only [Act.put, Za, Zb, Zc, i64_w, i32_w]
            rfl
           refine pure_ (i := 12) (N := some 122) (v := ?_) (a' := ?_) (zb 16 16383) rfl rfl (by kernel_rfl) (fun _ _ _ h => h) (Or.inl ⟨by rfl, ?_⟩) ?_ ?_
           rotate_left
           ·intro w'
            go_simp
            with_reducible rfl
           rotate_left
           ·simp only [Act.put, Za, Zb, Zc, i64_w, i32_w]
            rfl
           exact norm_ (by simp only [putAll, Act.put, List.setIfInBounds_toArray, List.set_cons_zero, List.set_cons_succ]) (hCont (vA, vN, wr.drew.heap.size) _ ⟨h7, q1, q2, blk_below (blk_new _ _) hb6, hOd.m.lt⟩)
         rintro ⟨vA, vN, gl⟩ w8 ⟨h8, r1, r2, b0, hgl⟩
         dsimp only at r1 r2 b0 hgl ⊢
         obtain ⟨A1, c1, rfl⟩ := Kd.R_slice r1
         obtain ⟨A2, c2, rfl⟩ := Kd.R_slice r2
         rw [List.length_map] at r1 r2 ⊢
         rw [List.length_map]
         refine norm_ (a' := ?_) ?_ ?_
         rotate_left
         ·simp only [putAll, Act.put, List.setIfInBounds_toArray, List.set_cons_zero, List.set_cons_succ, i64_w, i32_w]
          rfl
         have e0 : w8.cell? ⟨gl, 0, none⟩ = some (.int .i64 0) := (blk_cell b0 0).trans rfl
         have f0 : w8.frozen? ⟨gl, 0, none⟩ = false := blk_frozen b0 0
         have e1 : w8.cell? ⟨gl, 1, none⟩ = some (.int .i64 0) := (blk_cell b0 1).trans rfl
         have f1 : w8.frozen? ⟨gl, 1, none⟩ = false := blk_frozen b0 1
         have e2 : w8.cell? ⟨gl, 2, none⟩ = some (.slice none 0 0) := (blk_cell b0 2).trans rfl
         have f2 : w8.frozen? ⟨gl, 2, none⟩ = false := blk_frozen b0 2
         have e3 : w8.cell? ⟨gl, 3, none⟩ = some (.slice none 0 0) := (blk_cell b0 3).trans rfl
         have f3 : w8.frozen? ⟨gl, 3, none⟩ = false := blk_frozen b0 3
         refine last_ (i := 14) (N := none) (zb 16 32767) rfl rfl (by kernel_rfl) (by decide) (fun K hK => ?_)
         refine skip_ (w1 := (((w8.setCell ⟨gl, 0, none⟩ (.int .i64 (tapes : Int))).setCell ⟨gl, 1, none⟩ (.int .i64 0)).setCell ⟨gl, 2, none⟩ (.slice A1 l.length c1)).setCell ⟨gl, 3, none⟩ (.slice A2 rws.length c2)) (by rfl) rfl (by first | (go_simp; done) | (go_simp; rfl)) ?_
         refine hK.out _ _ ?_
         clear hK K
         refine pure_ (i := 15) (N := some 20) (v := ?_) (a' := ?_) (zb 16 65535) rfl rfl (by kernel_rfl) (fun _ _ _ h => h) (Or.inl ⟨by rfl, ?_⟩) ?_ ?_
         rotate_left
         ·intro w'
          go_simp
          with_reducible rfl
         rotate_left
         ·simp only [Act.put, Za, Zb, Zc, i64_w, i32_w]
          rfl
         refine done_ (by kernel_rfl) ?_
         clear hSS hcall hOd hs1 hs0 hxn hsg
         have hne : w.heap.size + 1 ≠ gl := by omega
         have hgg : w.heap.size ≤ gl := by omega
         have b1 := blk_put b0 0 (.int .i64 (tapes : Int)) rfl
         have b2 := blk_put b1 1 (.int .i64 0) rfl
         have b3 := blk_put b2 2 (.slice A1 l.length c1) rfl
         have b4 := blk_put b3 3 (.slice A2 rws.length c2) rfl
         have q1 := Kd.R_set (Kd.R_set (Kd.R_set (Kd.R_set r1 b0 (by decide) 0 (.int .i64 (tapes : Int))) b1 (by decide) 1 (.int .i64 0)) b2 (by decide) 2 (.slice A1 l.length c1)) b3 (by decide) 3 (.slice A2 rws.length c2)
         have q2 := Kd.R_set (Kd.R_set (Kd.R_set (Kd.R_set r2 b0 (by decide) 0 (.int .i64 (tapes : Int))) b1 (by decide) 1 (.int .i64 0)) b2 (by decide) 2 (.slice A1 l.length c1)) b3 (by decide) 3 (.slice A2 rws.length c2)
         have hB := (((h8.m.bel.setCell (p := ⟨gl, 0, none⟩) hgg (.int .i64 (tapes : Int))).setCell (p := ⟨gl, 1, none⟩) hgg (.int .i64 0)).setCell (p := ⟨gl, 2, none⟩) hgg (.slice A1 l.length c1)).setCell (p := ⟨gl, 3, none⟩) hgg (.slice A2 rws.length c2)
         have b := (Keep.set _ ⟨gl, 3, none⟩ (.slice A2 rws.length c2)).obj ((Keep.set _ ⟨gl, 2, none⟩ (.slice A1 l.length c1)).obj ((Keep.set _ ⟨gl, 1, none⟩ (.int .i64 0)).obj ((Keep.set _ ⟨gl, 0, none⟩ (.int .i64 (tapes : Int))).obj h8.m.bR (by simpa using hne)) (by simpa using hne)) (by simpa using hne)) (by simpa using hne)
         clear b0 b1 b2 b3 r1 r2 e0 e1 e2 e3 f0 f1 f2 f3 h8
         generalize ((((w8.setCell ⟨gl, 0, none⟩ (.int .i64 (tapes : Int))).setCell ⟨gl, 1, none⟩ (.int .i64 0)).setCell ⟨gl, 2, none⟩ (.slice A1 l.length c1)).setCell ⟨gl, 3, none⟩ (.slice A2 rws.length c2)) = w9 at *
         have d0 : w9.cell? ⟨gl, 0, none⟩ = some (.int .i64 tapes) := (blk_cell b4 0).trans rfl
         have d1 : w9.cell? ⟨gl, 1, none⟩ = some (.int .i64 0) := (blk_cell b4 1).trans rfl
         have d2 : w9.cell? ⟨gl, 2, none⟩ = some (.slice A1 l.length c1) := (blk_cell b4 2).trans rfl
         have d3 : w9.cell? ⟨gl, 3, none⟩ = some (.slice A2 rws.length c2) := (blk_cell b4 3).trans rfl
         have e0 : w9.cell? ⟨w.heap.size + 1, 0, none⟩ = some (.int .i64 0) := (blk_cell b 0).trans rfl
         have e1 : w9.cell? ⟨w.heap.size + 1, 1, none⟩ = some (.int .i64 0) := (blk_cell b 1).trans rfl
         have e2 : w9.cell? ⟨w.heap.size + 1, 2, none⟩ = some (.slice none 0 0) := (blk_cell b 2).trans rfl
         have e3 : w9.cell? ⟨w.heap.size + 1, 3, none⟩ = some (.slice none 0 0) := (blk_cell b 3).trans rfl
         have f0 : w9.frozen? ⟨w.heap.size + 1, 0, none⟩ = false := blk_frozen b 0
         have f1 : w9.frozen? ⟨w.heap.size + 1, 1, none⟩ = false := blk_frozen b 1
         have f2 : w9.frozen? ⟨w.heap.size + 1, 2, none⟩ = false := blk_frozen b 2
         have f3 : w9.frozen? ⟨w.heap.size + 1, 3, none⟩ = false := blk_frozen b 3
         go_wp2_with fail
         have b1 := blk_put b 0 (.int .i64 (tapes : Int)) rfl
         have b2 := blk_put b1 1 (.int .i64 0) rfl
         have b3 := blk_put b2 2 (.slice A1 l.length c1) rfl
         have b5 := blk_put b3 3 (.slice A2 rws.length c2) rfl
         refine bodyPost_ret (results_cell_row rfl _ _ (w.heap.size + 1) 66 #[.int .i64 tapes, .int .i64 0, .slice A1 l.length c1, .slice A2 rws.length c2] (0, 0) _ rfl b5 Tryd.underlying66 rfl (by kernel_rfl)) rfl ⟨_, _, rfl, ?_, ?_, ?_⟩
         ·exact Kd.R_set (Kd.R_set (Kd.R_set (Kd.R_set q1 b (by decide) 0 _) b1 (by decide) 1 _) b2 (by decide) 2 _) b3 (by decide) 3 _
         ·exact Kd.R_set (Kd.R_set (Kd.R_set (Kd.R_set q2 b (by decide) 0 _) b1 (by decide) 1 _) b2 (by decide) 2 _) b3 (by decide) 3 _
         ·exact (((hB.setCell (by simp) _).setCell (by simp) _).setCell (by simp) _).setCell (by simp) _
      ·rw [if_neg hsm] at hc2
       have he1 : ((seen.length : Int) == (m : Int)) = false := beq_eq_false_iff_ne.2 (by omega)
       have hc3 := Aside0.mk hc2
       have hx2 : ∀ x ∈ out, x ≤ 1000000 := fun x hx => by have := hx1 x hx; omega
       have hx3 := Aside0.mk hx2
       clear hc2 hsm hx1 hx2
       go_wp2_with (first
        | ((with_reducible refine gate_dst (N := 90) rfl ?_); go_loud (refine at_size hF2 rfl _ 138 3 rfl Tryd.underlying138 rfl ?_; rw [ents_length]))
        | ((with_reducible refine gate_dst (N := 94) rfl ?_); go_loud (refine at_size hF2 rfl _ 138 3 rfl Tryd.underlying138 rfl ?_; rw [ents_length])))
       go_roundg kf
       case measure => omega
       case rel => exact ⟨seen.length, out, _, rfl, by omega, hc3, hol, hx3, ⟨hM2⟩⟩
end Go.Proofs.YtnjdkhnepmmfgaaDoor.Mg
namespace Go.Proofs.YtnjdkhnepmmfgaaDoor.GwP
set_option linter.unusedVariables false
set_option linter.unusedSimpArgs false
open Go.RowKit Go.Proofs.YtnjdkhnepmmfgaaDoorW.PrintWords Go.Proofs.YtnjdkhnepmmfgaaDoorW.PrintLast Go.Proofs.YtnjdkhnepmmfgaaDoorW.PrintMore Mp Kp Ky Fv Tdy
abbrev Pl := Int × Int
def encP (k : Pl) : Value := .agg #[.int .i64 k.1, .int .i64 k.2]
def kP : Kd Pl := Kd.pair (Kd.int .i64) (Kd.int .i64)
def I64 (a : Int) : Prop := -9223372036854775808 ≤ a ∧ a ≤ 9223372036854775807
def Fit (k : Pl) : Prop := I64 k.1 ∧ I64 k.2
def ints (l : List Nat) : List Int := l.map Int.ofNat
/-- The map's entries: what has been met, with its number. -/
def ents (l : List Pl) : List (Value × Value) := l.zipIdx.map fun p => (encP p.1, .int .i64 (p.2 : Int))
theorem info_place : (Tryd.prog.info? 129).map (fun i => (i.zero, i.size, i.bytes)) = some (some (.agg #[.int .i64 0, .int .i64 0]), 2, 16) := by kernel_rfl
theorem info_int : (Tryd.prog.info? 3).map (fun i => (i.zero, i.size, i.bytes)) = some (some (.int .i64 0), 1, 8) := by kernel_rfl
theorem info_bool : (Tryd.prog.info? 4).map (fun i => (i.zero, i.size, i.bytes)) = some (some (.bool false), 1, 1) := by kernel_rfl
theorem info_ints : (Tryd.prog.info? 87).map (fun i => (i.zero, i.size, i.bytes)) = some (some (.slice none 0 0), 1, 24) := by kernel_rfl
theorem ents_snoc (l : List Pl) (k : Pl) : ents (l ++ [k]) = ents l ++ [(encP k, .int .i64 (l.length : Int))] := by simp [ents, List.zipIdx_append]
theorem ents_length (l : List Pl) : (ents l).length = l.length := by simp [ents]
theorem encP_inj {a b : Pl} (h : encP a = encP b) : a = b := by
 obtain ⟨a1, a2⟩ := a
 obtain ⟨b1, b2⟩ := b
 simp [encP] at h
 simp [h]
theorem ents_hit {l : List Pl} {k : Pl} {j : Nat} (h : find id k l = some j) : (encP k, Value.int .i64 (j : Int)) ∈ ents l := by
 obtain ⟨hj, e⟩ := find_some h
 refine List.mem_map.2 ⟨(k, j), ?_, rfl⟩
 rw [List.mem_zipIdx_iff_getElem?, List.getElem?_eq_getElem hj]
 exact congrArg some e
theorem ents_miss {l : List Pl} {k : Pl} (h : find id k l = none) : ∀ p ∈ ents l, p.1 ≠ encP k := by
 intro p hp he
 obtain ⟨⟨a, i⟩, ha, rfl⟩ := List.mem_map.1 hp
 have hm : a ∈ l := by
  rw [List.mem_zipIdx_iff_getElem?] at ha
  exact List.mem_of_getElem? ha
 exact find_none h a hm (encP_inj he)
theorem bfs_pre {key : Pl → Pl} {nxt : Pl → Nat → Pl} {cols : List Nat} : ∀ (f i : Nat) (l : List Pl) (rw_ : List (List Nat)) (l' : List Pl) (rows' : List (List Nat)), bfs key nxt cols 0 f i l rw_ = some (some (l', rows')) → ∃ m, l' = l ++ m
 | 0, _, _, _, _, _, h => by simp [bfs] at h
 | f + 1, i, l, rw_, l', rows', h => by
  unfold bfs at h
  split at h
  ·rw [if_neg (by omega)] at h
   obtain ⟨m, hm⟩ := bfs_pre f _ _ _ _ _ h
   obtain ⟨m', hm'⟩ := row_prefix (key := key) (nxt := nxt) (s := l[i]) cols l
   exact ⟨m' ++ m, by rw [hm, hm', List.append_assoc]⟩
  ·simp only [Option.some.injEq, Prod.mk.injEq] at h
   exact ⟨[], by rw [← h.1]; simp⟩
theorem kP_M (W : World) (base : Nat) (ok : Nat → Prop) (k : Pl) : kP.M W base ok k [.int .i64 k.1, .int .i64 k.2] := ⟨[.int .i64 k.1], [.int .i64 k.2], rfl, rfl, rfl⟩
/-- What stands in memory between two rounds; x: the block of the row that is being made. -/
structure G (w0 : World) (tapes : Nat) (s : Pl) (bs : List Bool) (em : List (Value × Value)) (li : List Pl) (rws : List (List Nat)) (ok : Nat → Prop) (x : Option Nat) (vL vA vN : Value) (W : World) : Prop where
 b0 : W.heap[w0.heap.size]? = some (.cells #[.int .i64 s.1, .int .i64 s.2] 129 (0, 0))
 b1 : W.heap[w0.heap.size + 1]? = some (.cells #[.int .i64 0, .int .i64 0, .slice none 0 0, .slice none 0 0] 66 (0, 0))
 b2 : W.heap[w0.heap.size + 2]? = some (.cells #[.int .i64 tapes, .int .i64 0, vA, vN] 66 (0, 0))
 acc : Kd.R Kd.bool 4 W w0.heap.size (fun _ => True) vA bs
 nxt : Kd.R (Kd.slice 3 (Kd.int .i64)) 87 W w0.heap.size (fun k => True ∧ some k ≠ x) vN (rws.map ints)
 map : FMap Tryd.prog 129 W (w0.heap.size + 3) em
 lst : kP.R 129 W w0.heap.size (fun k => ok k ∧ k ≠ w0.heap.size) vL li
 bel : Below w0.heap.size w0 W
section
variable {w0 : World} {tapes : Nat} {s : Pl} {bs : List Bool} {em : List (Value × Value)} {li : List Pl} {rws : List (List Nat)} {ok : Nat → Prop} {x : Option Nat} {vL vA vN : Value} {W W' : World}
theorem G.lt (h : G w0 tapes s bs em li rws ok x vL vA vN W) : w0.heap.size + 3 < W.heap.size := h.map.lt
/-- A call, a new block, a draw. -/
theorem G.step (h : G w0 tapes s bs em li rws ok x vL vA vN W) (hb : Below W.heap.size W W') : G w0 tapes s bs em li rws ok x vL vA vN W' :=
 ⟨blk_below h.b0 hb, blk_below h.b1 hb, blk_below h.b2 hb, Kd.R_below h.acc hb, Kd.R_below h.nxt hb, map_keep h.map (Keep.below hb) (by simp), Kd.R_below h.lst hb, below_step h.bel hb⟩
/-- A new block for a state. -/
theorem G.enter (h : G w0 tapes s bs em li rws ok x vL vA vN W) (o : Obj) : G w0 tapes s bs em li rws (fun k => k ≠ W.heap.size) x vL vA vN (W.alloc o) :=
 let g := h.step (below_alloc (Below.refl _ _) o)
 ⟨g.b0, g.b1, g.b2, g.acc, g.nxt, g.map, Kd.R_mono (Kd.R_below (Kd.R_bound h.lst) (below_alloc (Below.refl _ _) o)) (fun k hk => ⟨by have := hk.2.2.1; omega, hk.1.2⟩), g.bel⟩
/-- An entry is put into the map. -/
theorem G.put (h : G w0 tapes s bs em li rws ok x vL vA vN W) {em' : List (Value × Value)} (hg : W.grownBy W' (some (w0.heap.size + 3))) (hF : FMap Tryd.prog 129 W' (w0.heap.size + 3) em') : G w0 tapes s bs em' li rws ok x vL vA vN W' := by
 have hk := Keep.grown hg
 have hlt := h.lt
 exact ⟨hk.obj h.b0 (by simp), hk.obj h.b1 (by simp), hk.obj h.b2 (by simp), R_off h.acc hk (Off.map h.map _), R_off h.nxt hk (Off.map h.map _), hF, R_off h.lst hk (Off.map h.map _), h.bel.grown hg (by omega) (fun k hk => by cases hk; omega)⟩
/-- The list gets one more. -/
theorem G.push (h : G w0 tapes s bs em li rws ok x vL vA vN W) {v1 : Value} {k : Pl} (hg : W.grownBy W' vL.ownBlock) (hR : kP.R 129 W' w0.heap.size (fun k => ok k ∧ k ≠ w0.heap.size) v1 (li ++ [k])) (hb : Below w0.heap.size w0 W') : G w0 tapes s bs em (li ++ [k]) rws ok x v1 vA vN W' := by
 have hk := Keep.grown hg
 exact ⟨hk.obj h.b0 (fun e => (h.lst.1 _ e.symm).2 rfl), hk.obj h.b1 (off_ne h.b1 (Off.row h.lst (by decide))), hk.obj h.b2 (off_ne h.b2 (Off.row h.lst (by decide))), R_off h.acc hk (Off.row h.lst (by decide)), R_off h.nxt hk (Off.row h.lst (by decide)), map_keep h.map hk (map_row_ne h.map h.lst), hR, hb⟩
/-- The row that is being made gets one more. -/
theorem G.more {v v1 : Value} {r : List Int} {o1 : Nat → Prop} (h : G w0 tapes s bs em li rws ok v.ownBlock vL vA vN W) (hr : Kd.R (Kd.int .i64) 3 W w0.heap.size o1 v r) (hg : W.grownBy W' v.ownBlock) (hat : v1.ownBlock = v.ownBlock ∨ ∃ b, v1.ownBlock = some b ∧ W.heap.size ≤ b) (hb : Below w0.heap.size w0 W') : G w0 tapes s bs em li rws ok v1.ownBlock vL vA vN W' := by
 have hk := Keep.grown hg
 exact ⟨hk.obj h.b0 (off_ne h.b0 (Off.row hr (by decide))), hk.obj h.b1 (off_ne h.b1 (Off.row hr (by decide))), hk.obj h.b2 (off_ne h.b2 (Off.row hr (by decide))), R_off h.acc hk (Off.row hr (by decide)), Kd.R_after h.nxt hg hat, map_keep h.map hk (map_row_ne h.map hr), R_off h.lst hk (Off.row hr (by decide)), hb⟩
end
/-- .. and while a row is made: the state's own block gK, the row. -/
structure H (w0 : World) (tapes : Nat) (s : Pl) (bs : List Bool) (em : List (Value × Value)) (li : List Pl) (rws : List (List Nat)) (gK : Nat) (k : Pl) (r : List Nat) (vr vL vA vN : Value) (W : World) : Prop where
 g : G w0 tapes s bs em li rws (fun j => j ≠ gK) vr.ownBlock vL vA vN W
 bK : W.heap[gK]? = some (.cells #[.int .i64 k.1, .int .i64 k.2] 129 (0, 0))
 row : Kd.R (Kd.int .i64) 3 W w0.heap.size (fun _ => True) vr (ints r)
section
variable {w0 : World} {tapes : Nat} {s : Pl} {bs : List Bool} {em : List (Value × Value)} {li : List Pl} {rws : List (List Nat)} {gK : Nat} {k : Pl} {r : List Nat} {vr vL vA vN : Value} {W W' : World}
theorem H.step (h : H w0 tapes s bs em li rws gK k r vr vL vA vN W) (hb : Below W.heap.size W W') : H w0 tapes s bs em li rws gK k r vr vL vA vN W' := ⟨h.g.step hb, blk_below h.bK hb, Kd.R_below h.row hb⟩
theorem H.put (h : H w0 tapes s bs em li rws gK k r vr vL vA vN W) {em' : List (Value × Value)} (hg : W.grownBy W' (some (w0.heap.size + 3))) (hF : FMap Tryd.prog 129 W' (w0.heap.size + 3) em') : H w0 tapes s bs em' li rws gK k r vr vL vA vN W' :=
 ⟨h.g.put hg hF, (Keep.grown hg).obj h.bK (fun e => map_ne h.g.map h.bK (Option.some.inj e).symm), R_off h.row (Keep.grown hg) (Off.map h.g.map _)⟩
theorem H.push (h : H w0 tapes s bs em li rws gK k r vr vL vA vN W) {v1 : Value} {p : Pl} (hg : W.grownBy W' vL.ownBlock) (hR : kP.R 129 W' w0.heap.size (fun j => j ≠ gK ∧ j ≠ w0.heap.size) v1 (li ++ [p])) (hb : Below w0.heap.size w0 W') : H w0 tapes s bs em (li ++ [p]) rws gK k r vr v1 vA vN W' :=
 ⟨h.g.push hg hR hb, (Keep.grown hg).obj h.bK (fun e => (h.g.lst.1 _ e.symm).1 rfl), R_off h.row (Keep.grown hg) (Off.row h.g.lst (by decide))⟩
theorem H.more (h : H w0 tapes s bs em li rws gK k r vr vL vA vN W) {v1 : Value} {j : Nat} (hg : W.grownBy W' vr.ownBlock) (hat : v1.ownBlock = vr.ownBlock ∨ ∃ b, v1.ownBlock = some b ∧ W.heap.size ≤ b) (hR : Kd.R (Kd.int .i64) 3 W' w0.heap.size (fun _ => True) v1 (ints r ++ [(j : Int)])) (hb : Below w0.heap.size w0 W') : H w0 tapes s bs em li rws gK k (r ++ [j]) v1 vL vA vN W' :=
 ⟨h.g.more h.row hg hat hb, (Keep.grown hg).obj h.bK (off_ne h.bK (Off.row h.row (by decide))), by simpa [ints] using hR⟩
/-- The state's mark is put behind the others. -/
theorem H.acc (h : H w0 tapes s bs em li rws gK k r vr vL vA vN W) {v1 : Value} {bs' : List Bool} (hg : W.grownBy W' vA.ownBlock) (hR : Kd.R Kd.bool 4 W' w0.heap.size (fun _ => True) v1 bs') (hb : Below w0.heap.size w0 W') :
  W'.heap[w0.heap.size + 2]? = some (.cells #[.int .i64 tapes, .int .i64 0, vA, vN] 66 (0, 0)) ∧ W'.heap[gK]? = some (.cells #[.int .i64 k.1, .int .i64 k.2] 129 (0, 0)) ∧
   H w0 tapes s bs' em li rws gK k r vr vL v1 vN (W'.setCell ⟨w0.heap.size + 2, 2, none⟩ v1) := by
 have hk := Keep.grown hg
 have o : ∀ E : List Nat, (∀ q ∈ E, q ≠ 4) → Off W vA.ownBlock E := fun E hE => Off.row h.g.acc hE
 have b2 := hk.obj h.g.b2 (off_ne h.g.b2 (o _ (by decide)))
 have bK := hk.obj h.bK (off_ne h.bK (o _ (by decide)))
 refine ⟨b2, bK, ?_⟩
 have hs := Keep.set W' ⟨w0.heap.size + 2, 2, none⟩ v1
 have p : ∀ E : List Nat, (∀ q ∈ E, q ≠ 66) → Off W' (some (w0.heap.size + 2)) E := fun E hE => Off.cells b2 hE
 have m := map_keep h.g.map hk (map_row_ne h.g.map h.g.acc)
 exact ⟨⟨hs.obj (hk.obj h.g.b0 (off_ne h.g.b0 (o _ (by decide)))) (by simp), hs.obj (hk.obj h.g.b1 (off_ne h.g.b1 (o _ (by decide)))) (by simp), blk_put b2 2 v1 rfl, R_off hR hs (p _ (by decide)), R_off (R_off h.g.nxt hk (o _ (by decide))) hs (p _ (by decide)), map_keep m hs (by simp), R_off (R_off h.g.lst hk (o _ (by decide))) hs (p _ (by decide)), hb.setCell (by simp) _⟩,
  hs.obj bK (fun e => blk_ne bK b2 (by decide) (Option.some.inj e)), R_off (R_off h.row hk (o _ (by decide))) hs (p _ (by decide))⟩
/-- The row is put behind the others. -/
theorem H.nxt (h : H w0 tapes s bs em li rws gK k r vr vL vA vN W) {v1 : Value} (hg : W.grownBy W' vN.ownBlock) (hR : Kd.R (Kd.slice 3 (Kd.int .i64)) 87 W' w0.heap.size (fun _ => True) v1 (rws.map ints ++ [ints r])) (hb : Below w0.heap.size w0 W') :
  W'.heap[w0.heap.size + 2]? = some (.cells #[.int .i64 tapes, .int .i64 0, vA, vN] 66 (0, 0)) ∧ G w0 tapes s bs em li (rws ++ [r]) (fun _ => True) none vL vA v1 (W'.setCell ⟨w0.heap.size + 2, 3, none⟩ v1) := by
 have hk := Keep.grown hg
 have o : ∀ E : List Nat, (∀ q ∈ E, q ≠ 87) → Off W vN.ownBlock E := fun E hE => Off.row h.g.nxt hE
 have b2 := hk.obj h.g.b2 (off_ne h.g.b2 (o _ (by decide)))
 refine ⟨b2, ?_⟩
 have hs := Keep.set W' ⟨w0.heap.size + 2, 3, none⟩ v1
 have p : ∀ E : List Nat, (∀ q ∈ E, q ≠ 66) → Off W' (some (w0.heap.size + 2)) E := fun E hE => Off.cells b2 hE
 have m := map_keep h.g.map hk (map_row_ne h.g.map h.g.nxt)
 exact ⟨hs.obj (hk.obj h.g.b0 (off_ne h.g.b0 (o _ (by decide)))) (by simp), hs.obj (hk.obj h.g.b1 (off_ne h.g.b1 (o _ (by decide)))) (by simp), blk_put b2 3 v1 rfl, R_off (R_off h.g.acc hk (o _ (by decide))) hs (p _ (by decide)), Kd.R_mono (R_off (by simpa using hR) hs (p _ (by decide))) (fun _ _ => ⟨trivial, by simp⟩), map_keep m hs (by simp), Kd.R_mono (R_off (R_off h.g.lst hk (o _ (by decide))) hs (p _ (by decide))) (fun _ hk => ⟨trivial, hk.2⟩), hb.setCell (by simp) _⟩
end
theorem take_row {nxt : Pl → Nat → Pl} {cs : List Nat} {li : List Pl} {i : Nat} (h : i < li.length) : (row id nxt li[i] cs li).1.take (i + 1) = li.take i ++ [li[i]] ∧ i + 1 ≤ (row id nxt li[i] cs li).1.length := by
 obtain ⟨m, hm⟩ := row_prefix (key := id) (nxt := nxt) (s := li[i]) cs li
 rw [hm]
 refine ⟨?_, by rw [List.length_append]; omega⟩
 rw [List.take_append_of_le_length (by omega), List.take_succ_eq_append_getElem h]
theorem at_P {w : World} {A : Option Addr} {n : Nat} {xs : List Pl} (h : Kd.C kP w A n xs) (i : Nat) (h1 : i < xs.length) (hn : xs.length = n) : ∃ ad, A = some ad ∧ w.cell? (ad.add (i * 2)) = some (.int .i64 xs[i].1) ∧ w.cell? ⟨(ad.add (i * 2)).block, (ad.add (i * 2)).off + 1, none⟩ = some (.int .i64 xs[i].2) := by
 obtain ⟨ad, c, e, _, hK, hc0⟩ := Kd.C_get h ((0, 0) : Pl) (i : Int) (by omega) (by omega)
 rw [Int.toNat_natCast] at hK hc0
 have hx : xs.getD i (0, 0) = xs[i] := by simp [List.getD, List.getElem?_eq_getElem h1]
 rw [hx] at hK
 have hc : ∀ j u, c[j]? = some u → w.cell? (ad.add (i * 2 + j)) = some u := hc0
 obtain ⟨c0, c1, rfl, h2, h3⟩ := hK
 have h2' : c0 = [.int .i64 xs[i].1] := h2
 have h3' : c1 = [.int .i64 xs[i].2] := h3
 subst h2' h3'
 exact ⟨ad, e, hc 0 _ rfl, by rw [← add_field _ _ 1 (by omega)]; exact hc 1 _ rfl⟩
set_option maxHeartbeats 8000000 in
set_option maxRecDepth 100000 in
theorem grow (tapes : Nat) (start : Pl) (fa fx : Value) (acc : Pl → Bool) (nxt : Pl → Nat → Pl) (w : World) (wd : Nat) (hwd2 : wd ≤ 30)
  (hwd : ∀ W, Calls Tryd.prog 94 #[.int .i64 tapes] W fun e W' => e = .returned (.int .i64 wd) ∧ Below W.heap.size W W')
  (Q : Pl → Prop) (hQ0 : Q start) (hQf : ∀ k, Q k → Fit k) (hQn : ∀ k c, Q k → c < wd → Q (nxt k c))
  (hacc : ∀ k, Q k → Answers Tryd.prog w fa #[encP k] (.bool (acc k))) (hnxt : ∀ k c, Q k → c < wd → Answers Tryd.prog w fx #[encP k, .int .i64 (c : Int)] (encP (nxt k c)))
  (f : Nat) (l : List Pl) (rows : List (List Nat)) (hr : bfs id nxt (List.range wd) 0 f 0 [start] [] = some (some (l, rows))) (hl : l.length ≤ 1000000) :
  Calls Tryd.prog 106 #[.int .i64 tapes, encP start, .int .i64 0, fa, fx] w fun e w' => ∃ vA vN, e = .returned (.tuple #[.agg #[.int .i64 tapes, .int .i64 0, vA, vN], .bool true]) ∧
   Kd.R Kd.bool 4 w' w.heap.size (fun _ => True) vA (l.map acc) ∧ Kd.R (Kd.slice 3 (Kd.int .i64)) 87 w' w.heap.size (fun _ => True) vN (rows.map ints) ∧ Below w.heap.size w w' := by
 have hmm := @run_makeMap Tryd.prog
 obtain ⟨s1, s2⟩ := start
 obtain ⟨kl0, hk0⟩ := place_key (hQf _ hQ0).1 (hQf _ hQ0).2
 unfold encP
 go_enter Tryd.func106, Tryd.ntmps106
 go_wp2_with ((with_reducible refine gate_insert rfl ?_); (refine at_put (b := w.heap.size + 3) (es := []) ?hF place_law rfl _ _ _ 136 3 (Or.inr rfl) Tryd.underlying136 (by decide) rfl _ (.int .i64 0) hk0 rfl rfl (fun p hp => by cases hp) ?hKk; (case hF => exact FMap.of_empty (blk_at _ _ _ (by simp))); intro w1 hF hg; have hK := Keep.grown hg; have b0 : w1.heap[w.heap.size]? = some (.cells #[.int .i64 s1, .int .i64 s2] 129 (0, 0)) := hK.obj (blk_alloc (blk_alloc (blk_alloc (blk_new _ _) _) _) _) (by simp); have b1 : w1.heap[w.heap.size + 1]? = some (.cells #[.int .i64 0, .int .i64 0, .slice none 0 0, .slice none 0 0] 66 (0, 0)) := hK.obj (blk_alloc (blk_alloc (blk_at _ _ _ (by simp)) _) _) (by simp); have b2 : w1.heap[w.heap.size + 2]? = some (.cells #[.int .i64 tapes, .int .i64 0, .slice none 0 0, .slice none 0 0] 66 (0, 0)) := hK.obj (blk_alloc (blk_at _ _ _ (by simp)) _) (by simp); have c0 := blk_cell b0 0; have c1 := blk_cell b0 1; simp only [List.getElem?_toArray, List.getElem?_cons_zero, List.getElem?_cons_succ] at c0 c1))
 have hbe : Below w.heap.size w w1 := (below_alloc (below_alloc (below_alloc (below_alloc (Below.refl _ _) _) _) _) _).grown hg (by simp <;> omega) (fun k hk => by cases hk; omega)
 have hlt1 : w.heap.size + 3 < w1.heap.size := hF.lt
 have g1 : G w tapes (s1, s2) [] (ents [(s1, s2)]) [(s1, s2)] [] (fun _ => True) none (.slice (some ⟨w1.heap.size, 0, none⟩) 1 1) (.slice none 0 0) (.slice none 0 0) (w1.alloc (.cells #[.int .i64 s1, .int .i64 s2] 129)) := by
  refine ⟨blk_alloc b0 _, blk_alloc b1 _, blk_alloc b2 _, Kd.R_nil _ _ _ _ _, Kd.R_nil _ _ _ _ _, map_keep hF (Keep.below (below_alloc (Below.refl _ _) _)) (by simp), ?_, below_alloc hbe _⟩
  exact R_one kP _ w1 _ (by omega) (kP_M w1 w.heap.size (fun _ => False) (s1, s2)) (fun _ h => h.elim) ⟨trivial, by omega⟩
 clear hF hg hK b0 b1 b2 c0 c1 hbe
 go_loopg [14, 15] f (fun kf v14 v15 wr => ∃ (i : Nat) (li : List Pl) (rws : List (List Nat)) (AL : Option Addr) (cL : Nat) (vA vN : Value), v14 = .slice AL li.length cL ∧ v15 = .int .i64 (i : Int) ∧ Aside0 (bfs id nxt (List.range wd) 0 kf i li rws = some (some (l, rows))) ∧ Aside0 (rws.length = i) ∧ i ≤ li.length ∧ Aside0 (∀ k ∈ li, Q k) ∧ Aside0 (G w tapes (s1, s2) ((li.take i).map acc) (ents li) li rws (fun _ => True) none (.slice AL li.length cL) vA vN wr))
 case atStart => exact ⟨0, [(s1, s2)], [], _, _, _, _, rfl, rfl, ⟨hr⟩, ⟨rfl⟩, Nat.zero_le _, ⟨fun k hk => by rw [List.mem_singleton.1 hk]; exact hQ0⟩, ⟨g1⟩⟩
 case round =>
  clear g1
  obtain ⟨wo, rfl⟩ : ∃ wo : World, wo = wr := ⟨_, rfl⟩
  obtain ⟨i, li, rws, AL, cL, vA, vN, rfl, rfl, H, hrl, hil, hQl, g⟩ := hrel
  have hli : li.length ≤ 1000000 := by obtain ⟨m, hm⟩ := bfs_pre _ _ _ _ _ _ H.out; rw [hm, List.length_append] at hl; omega
  by_cases hlt : i < li.length
  ·cases gk with
   | zero => exact absurd H.out (by simp [bfs])
   | succ kf =>
   have H1 := H.out
   unfold bfs at H1
   rw [dif_pos hlt, if_neg (by omega)] at H1
   have HH := Aside0.mk H1
   clear H1 H
   obtain ⟨rl, _, hC⟩ := Kd.R_reads' g.out.lst
   obtain ⟨ad, rfl, k0, k1⟩ := at_P hC i hlt rfl
   have hQk : Aside0 (Q li[i]) := ⟨hQl.out _ (List.getElem_mem hlt)⟩
   have htr := Aside0.mk (take_row (nxt := nxt) (cs := List.range wd) hlt)
   clear hC rl
   generalize hk : li[i] = k at *
   have HK := Aside0.mk hk
   clear hk
   have hlt1 : ((i : Int) < (li.length : Int)) = True := eq_true (by omega)
   have h0i : (0 ≤ (i : Int)) = True := eq_true (by omega)
   go_wp2_with fail
   have h0 : H w tapes (s1, s2) ((li.take i).map acc) (ents li) li rws wo.heap.size k [] (.slice none 0 0) (.slice (some ad) li.length cL) vA vN (wo.alloc (.cells #[.int .i64 k.1, .int .i64 k.2] 129)) := ⟨g.out.enter _, blk_new _ _, Kd.R_nil _ _ _ _ _⟩
   clear k0 k1 g
   go_loopg [14, 17, 18] wd (fun kq v14 v17 v18 wq => ∃ (c : Nat) (lj : List Pl) (r : List Nat) (A' : Option Addr) (c' : Nat) (Ar : Option Addr) (cr : Nat), v14 = .slice A' lj.length c' ∧ v17 = .slice Ar r.length cr ∧ v18 = .int .i64 (c : Int) ∧ c ≤ wd ∧ Aside0 (kq = wd - c) ∧ Aside0 (r.length = c) ∧ Aside0 ((row id nxt k ((List.range wd).drop c) lj).1 = (row id nxt k (List.range wd) li).1 ∧ r ++ (row id nxt k ((List.range wd).drop c) lj).2 = (row id nxt k (List.range wd) li).2) ∧ Aside0 (∀ k ∈ lj, Q k) ∧ Aside0 (H w tapes (s1, s2) ((li.take i).map acc) (ents lj) lj rws wo.heap.size k r (.slice Ar r.length cr) (.slice A' lj.length c') vA vN wq))
   case atStart => exact ⟨0, li, [], _, _, none, 0, rfl, rfl, rfl, Nat.zero_le _, ⟨by simp⟩, ⟨rfl⟩, ⟨by simp⟩, ⟨hQl.out⟩, ⟨h0⟩⟩
   case round =>
    clear h0
    obtain ⟨c, lj, r, A', c', Ar, cr, rfl, rfl, rfl, hcw, hkq, hrc, HR, hQj, h⟩ := hrel
    replace h := h.out
    by_cases hc : c < wd
    ·have hd : (List.range wd).drop c = c :: (List.range wd).drop (c + 1) := by
      rw [List.drop_eq_getElem_cons (by simpa using hc)]; simp
     have HR1 := HR.out
     rw [hd] at HR1
     clear HR hd
     obtain ⟨f2, fn2, cap2, rfl, hfn, hnm, hbd, hcall⟩ := hnxt k c hQk.out hc
     have hQt := hQn k c hQk.out hc
     have hlj : lj.length ≤ 1000000 ∧ (find id (nxt k c) lj = none → lj.length + 1 ≤ 1000000) := by
      obtain ⟨m, hm⟩ := bfs_pre _ _ _ _ _ _ HH.out
      rw [← HR1.1] at hm
      refine ⟨?_, fun hn => ?_⟩
      ·obtain ⟨m', hm'⟩ := row_prefix (key := id) (nxt := nxt) (s := k) (c :: (List.range wd).drop (c + 1)) lj
       rw [hm, hm', List.length_append, List.length_append] at hl
       omega
      ·rw [row_none hn] at hm
       obtain ⟨m', hm'⟩ := row_prefix (key := id) (nxt := nxt) (s := k) ((List.range wd).drop (c + 1)) (lj ++ [nxt k c])
       rw [hm, hm', List.length_append, List.length_append, List.length_append, List.length_singleton] at hl
       omega
     have hlt2 : ((c : Int) < (wd : Int)) = True := eq_true (by omega)
     cases hf : find id (nxt k c) lj with
     | some j =>
      rw [row_some hf] at HR1
      have HR := Aside0.mk HR1
      clear HR1
      have hjm := ents_hit hf
      have hjl := (find_some hf).1
      clear hf
      generalize nxt k c = tt at *
      obtain ⟨t1, t2⟩ := tt
      have hlj1 := hlj.1
      clear hlj
      unfold encP at hcall hjm
      go_wp2_with (first
       | (go_at_call 94; (with_reducible refine (hwd _).mono ?_); rintro e w2 ⟨rfl, hb2⟩; have h2 := h.step hb2; have c20 : w2.cell? ⟨wo.heap.size, 0, none⟩ = some (.int .i64 k.1) := (blk_cell h2.bK 0).trans rfl; have c21 : w2.cell? ⟨wo.heap.size, 1, none⟩ = some (.int .i64 k.2) := (blk_cell h2.bK 1).trans rfl)
       | ((with_reducible refine gate_dst (N := 48) rfl ?_); (refine goesV_ (some 48) rfl rfl hfn hnm hbd #[.agg #[.int .i64 k.1, .int .i64 k.2], .int .i64 (c : Int)] rfl rfl (by simp only [List.map_toArray, List.map_cons, List.map_nil]; rfl) ?_; (with_reducible refine (hcall _ h2.g.bel).mono ?_); rintro e w3 ⟨rfl, hb3⟩; refine ⟨_, rfl, ?_⟩; have h3 := h2.step hb3; have h4 := h3.step (below_alloc (Below.refl _ _) (.cells #[.int .i64 t1, .int .i64 t2] 129))))
       | ((with_reducible refine gate_dst (N := 52) rfl ?_); (refine at_hit h4.g.map place_law rfl _ _ 136 3 rfl Tryd.underlying136 (zero_int _) rfl _ _ rfl hjm ?_))
       | ((with_reducible refine gate_builtin (b := .append) (xs := #[.tmp 75, .tmp 77]) rfl ?_); at_builtin; (refine R_append' (Kd.int .i64) (w0 := w) w.heap.size rfl (.tmp 75) (.tmp 77) 87 3 (.int .i64 0) 8 rfl Tryd.underlying87 info_int rfl (by decide) (by decide) (.slice Ar r.length cr) (ints r) (j : Int) [.int .i64 (j : Int)] (fun _ => True) (fun _ => False) _ (by simp) rfl rfl rfl (fun _ h => h.elim) (fun _ _ => trivial) h4.row h4.g.bel (Below.size h4.g.bel) (by have := hrc.out; simp [ints]; omega) ?_; intro v1 w5 hR5 hb5 hg5 hat5; obtain ⟨A1, c1, hv1⟩ := Kd.R_slice hR5; have ev : (ints r ++ [(j : Int)]).length = (r ++ [j]).length := (by simp [ints]); rw [ev] at hv1; subst hv1; have h5 := h4.more hg5 hat5 hR5 hb5)))
      go_roundg (wd - (c + 1))
      case measure => have := hkq.out; omega
      case rel => exact ⟨c + 1, lj, r ++ [j], A', c', A1, c1, rfl, (by simp), (by go_num), by omega, ⟨rfl⟩, ⟨by have := hrc.out; simp; omega⟩, ⟨HR.out.1, by rw [List.append_assoc]; exact HR.out.2⟩, hQj, ⟨h5⟩⟩
     | none =>
      rw [row_none hf] at HR1
      have HR := Aside0.mk HR1
      clear HR1
      have hmiss := ents_miss hf
      have hlj1 := hlj.2 hf
      clear hf hlj
      generalize nxt k c = tt at *
      obtain ⟨t1, t2⟩ := tt
      obtain ⟨klt, hkt⟩ := place_key (hQf _ hQt).1 (hQf _ hQt).2
      unfold encP at hcall
      go_wp2_with (first
       | (go_at_call 94; (with_reducible refine (hwd _).mono ?_); rintro e w2 ⟨rfl, hb2⟩; have h2 := h.step hb2; have c20 : w2.cell? ⟨wo.heap.size, 0, none⟩ = some (.int .i64 k.1) := (blk_cell h2.bK 0).trans rfl; have c21 : w2.cell? ⟨wo.heap.size, 1, none⟩ = some (.int .i64 k.2) := (blk_cell h2.bK 1).trans rfl)
       | ((with_reducible refine gate_dst (N := 48) rfl ?_); (refine goesV_ (some 48) rfl rfl hfn hnm hbd #[.agg #[.int .i64 k.1, .int .i64 k.2], .int .i64 (c : Int)] rfl rfl (by simp only [List.map_toArray, List.map_cons, List.map_nil]; rfl) ?_; (with_reducible refine (hcall _ h2.g.bel).mono ?_); rintro e w3 ⟨rfl, hb3⟩; refine ⟨_, rfl, ?_⟩; have h3 := h2.step hb3; have h4 := h3.step (below_alloc (Below.refl _ _) (.cells #[.int .i64 t1, .int .i64 t2] 129))))
       | ((with_reducible refine gate_dst (N := 52) rfl ?_); refine at_miss h4.g.map place_law rfl _ _ 136 3 rfl Tryd.underlying136 (zero_int _) rfl _ hkt rfl hmiss ?_)
       | (at_mapUpdate; refine at_put h4.g.map place_law rfl _ _ _ 136 3 (Or.inl rfl) Tryd.underlying136 (by rw [ents_length]; unfold maxLen; omega) rfl _ (.int .i64 (lj.length : Int)) hkt rfl rfl hmiss ?_; intro w5 hF5 hg5; have hF6 : FMap Tryd.prog 129 w5 (w.heap.size + 3) (ents (lj ++ [(t1, t2)])) := (by rw [ents_snoc]; exact hF5); clear hF5; have h5 := h4.put hg5 hF6; have bt := (Keep.grown hg5).obj (blk_new w3 (.cells #[.int .i64 t1, .int .i64 t2] 129)) (by have := h3.g.lt; simp; omega); have ct0 : w5.cell? ⟨w3.heap.size, 0, none⟩ = some (.int .i64 t1) := (blk_cell bt 0).trans rfl; have ct1 : w5.cell? ⟨w3.heap.size, 1, none⟩ = some (.int .i64 t2) := (blk_cell bt 1).trans rfl)
       | ((with_reducible refine gate_builtin (b := .append) (xs := #[.tmp 62, .tmp 64]) rfl ?_); at_builtin; refine R_append' kP (w0 := w) w.heap.size rfl (.tmp 62) (.tmp 64) 137 129 (.agg #[.int .i64 0, .int .i64 0]) 16 rfl Tryd.underlying137 info_place rfl (by decide) (by decide) (.slice A' lj.length c') lj (t1, t2) [.int .i64 t1, .int .i64 t2] (fun j => j ≠ wo.heap.size ∧ j ≠ w.heap.size) (fun _ => False) _ (by simp) rfl rfl (kP_M _ _ _ _) (fun _ h => h.elim) (fun k hk => ⟨by have := blk_lt h5.bK; omega, by have := h5.g.lt; omega⟩) h5.g.lst h5.g.bel (Below.size h5.g.bel) (by omega) ?_; intro v6 w6 hR6 hb6 hg6 hat6; obtain ⟨A6, c6, hv6⟩ := Kd.R_slice hR6; subst hv6; have h6 := h5.push hg6 hR6 hb6; rw [List.length_append, List.length_singleton])
       | ((with_reducible refine gate_builtin (b := .append) (xs := #[.tmp 75, .tmp 77]) rfl ?_); at_builtin; refine R_append' (Kd.int .i64) (w0 := w) w.heap.size rfl (.tmp 75) (.tmp 77) 87 3 (.int .i64 0) 8 rfl Tryd.underlying87 info_int rfl (by decide) (by decide) (.slice Ar r.length cr) (ints r) (lj.length : Int) [.int .i64 (lj.length : Int)] (fun _ => True) (fun _ => False) _ (by simp) rfl rfl rfl (fun _ h => h.elim) (fun _ _ => trivial) h6.row h6.g.bel (Below.size h6.g.bel) (by have := hrc.out; simp [ints]; omega) ?_; intro v1 w7 hR7 hb7 hg7 hat7; obtain ⟨A1, c1, hv1⟩ := Kd.R_slice hR7; have ev : (ints r ++ [(lj.length : Int)]).length = (r ++ [lj.length]).length := (by simp [ints]); rw [ev] at hv1; subst hv1; have h7 := h6.more hg7 hat7 hR7 hb7))
      go_roundg (wd - (c + 1))
      case measure => have := hkq.out; omega
      case rel => exact ⟨c + 1, lj ++ [(t1, t2)], r ++ [lj.length], A6, c6, A1, c1, (by simp), (by simp), (by go_num), by omega, ⟨rfl⟩, ⟨by have := hrc.out; simp; omega⟩, ⟨HR.out.1, by rw [List.append_assoc]; exact HR.out.2⟩, ⟨fun k hk => (List.mem_append.1 hk).elim (hQj.out k) (fun h => by rw [List.mem_singleton.1 h]; exact hQt)⟩, ⟨h7⟩⟩
    ·have hcc : c = wd := by omega
     subst hcc
     have HR1 := HR.out
     simp only [List.drop_of_length_le (Nat.le_of_eq (List.length_range (n := c))), row, List.append_nil] at HR1
     have HR2 := Aside0.mk HR1
     clear HR1 HR
     obtain ⟨f2, fn2, cap2, rfl, hfn, hnm, hbd, hcall⟩ := hacc k hQk.out
     unfold encP at hcall
     have hlt2 : ((c : Int) < (c : Int)) = False := eq_false (by omega)
     go_wp2_with (go_at_call 94; (with_reducible refine (hwd _).mono ?_); rintro e w2 ⟨rfl, hb2⟩; have h2 := h.step hb2; have c20 : w2.cell? ⟨wo.heap.size, 0, none⟩ = some (.int .i64 k.1) := (blk_cell h2.bK 0).trans rfl; have c21 : w2.cell? ⟨wo.heap.size, 1, none⟩ = some (.int .i64 k.2) := (blk_cell h2.bK 1).trans rfl)
     refine start_ (n := 9) (S := fun w' => w'.cell? ⟨w.heap.size + 2, 2, none⟩ = some vA ∧ w'.cell? ⟨wo.heap.size, 0, none⟩ = some (.int .i64 k.1) ∧ w'.cell? ⟨wo.heap.size, 1, none⟩ = some (.int .i64 k.2)) (ds := [8]) (.replicate 9 false) (by kernel_rfl) rfl rfl (⟨(blk_cell h2.g.b2 2).trans rfl, c20, c21⟩) (fun hHeld => ?_)
     have h3 := h2.step (below_drew1 (Below.refl _ _))
     refine pure_ (i := 0) (N := some 79) (v := ?_) (a' := ?_) (zb 9 1) rfl rfl (by kernel_rfl) (fun _ _ _ h => h) (Or.inl ⟨by rfl, ?_⟩) ?_ ?_
     rotate_left
     ·intro w'
      go_simp
      with_reducible rfl
     rotate_left
     ·simp only [Act.put, Za, Zb, Zc, i64_w, i32_w]
      rfl
     refine pure_ (i := 2) (N := some 81) (v := ?_) (a' := ?_) (zb 9 5) rfl rfl (by kernel_rfl) (fun _ _ _ h => h) (Or.inl ⟨by rfl, ?_⟩) ?_ ?_
     rotate_left
     ·intro w'
      go_simp
      with_reducible rfl
     rotate_left
     ·simp only [Act.put, Za, Zb, Zc, i64_w, i32_w]
      rfl
     refine take_ (i := 1) (N := some 80) (v := ?_) (a' := ?_) (zb 9 7) rfl rfl (by kernel_rfl) (fun _ _ _ h => h) (Or.inl ⟨by rfl, ?_⟩) hHeld ?_ ?_
     rotate_left
     ·rintro w' ⟨s0, s1, s2⟩
      go_simp
      with_reducible rfl
     rotate_left
     ·simp only [Act.put, Za, Zb, Zc, i64_w, i32_w]
      rfl
     refine take_ (i := 3) (N := some 82) (v := ?_) (a' := ?_) (zb 9 15) rfl rfl (by kernel_rfl) (fun _ _ _ h => h) (Or.inl ⟨by rfl, ?_⟩) hHeld ?_ ?_
     rotate_left
     ·rintro w' ⟨s0, s1, s2⟩
      go_simp
      with_reducible rfl
     rotate_left
     ·simp only [Act.put, Za, Zb, Zc, i64_w, i32_w]
      rfl
     refine one_ (i := 4) (N := some 83) (zb 9 31) rfl rfl (by kernel_rfl) (by decide) (fun K hK => ?_)
     refine goesVs_ hfn hnm hbd #[.agg #[.int .i64 k.1, .int .i64 k.2]] (by rfl) rfl rfl rfl (by simp only [List.map_toArray, List.map_cons, List.map_nil]; rfl) ?_
     with_reducible refine (hcall _ h3.g.bel).mono ?_
     rintro e w4 ⟨rfl, hb4⟩
     refine ⟨_, rfl, ?_⟩
     have h4 := h3.step hb4
     refine hK.out _ _ ⟨(blk_cell h4.g.b2 2).trans rfl, (blk_cell h4.bK 0).trans rfl, (blk_cell h4.bK 1).trans rfl⟩ (fun hHeld => ?_)
     clear hK K
     refine norm_ (a' := ?_) ?_ ?_
     rotate_left
     ·show Act.put _ (some 83) _ = _
      simp only [Act.put, Za, Zb, Zc, i64_w, i32_w]
      rfl
     refine one_ (i := 5) (N := some 84) (zb 9 63) rfl rfl (by kernel_rfl) (by decide) (fun K hK => ?_)
     refine value_ (w1 := w4.alloc (.cells #[.bool (acc k)] 4)) (v := .slice (some ⟨w4.heap.size, 0, none⟩) 1 1) (by rfl) rfl (by first | (go_simp; done) | (go_simp; rfl)) ?_
     have h5 := h4.step (below_alloc (Below.refl _ _) (.cells #[.bool (acc k)] 4))
     refine hK.out _ _ ⟨(blk_cell h5.g.b2 2).trans rfl, (blk_cell h5.bK 0).trans rfl, (blk_cell h5.bK 1).trans rfl⟩ (fun hHeld => ?_)
     clear hK K
     refine norm_ (a' := ?_) ?_ ?_
     rotate_left
     ·show Act.put _ (some 84) _ = _
      simp only [Act.put, Za, Zb, Zc, i64_w, i32_w]
      rfl
     refine one_ (i := 6) (N := some 85) (zb 9 127) rfl rfl (by kernel_rfl) (by decide) (fun K hK => ?_)
     refine Kd.R_append_step Kd.bool (w0 := w) w.heap.size (by rfl) (.tmp 80) (.tmp 84) 22 4 (.bool false) 1 rfl Tryd.underlying22 info_bool rfl (by decide) (by decide) vA ((li.take i).map acc) (acc k) [.bool (acc k)] (fun _ => True) (fun _ => False) rfl rfl rfl (fun _ h => h.elim) (fun _ _ => trivial) h4.g.acc h4.g.bel (Below.size h4.g.bel) (by simp <;> omega) ?_
     intro v6 w6 hR6 hb6 hg6 hat6
     obtain ⟨A6, c6, hv6⟩ := Kd.R_slice hR6
     subst hv6
     obtain ⟨b26, bK6, h6⟩ := h4.acc hg6 hR6 hb6
     refine hK.out _ _ ⟨(blk_cell b26 2).trans rfl, (blk_cell bK6 0).trans rfl, (blk_cell bK6 1).trans rfl⟩ (fun hHeld => ?_)
     clear hK K
     refine norm_ (a' := ?_) ?_ ?_
     rotate_left
     ·show Act.put _ (some 85) _ = _
      simp only [Act.put, Za, Zb, Zc, i64_w, i32_w]
      rfl
     refine pure_ (i := 7) (N := some 86) (v := ?_) (a' := ?_) (zb 9 255) rfl rfl (by kernel_rfl) (fun _ _ _ h => h) (Or.inl ⟨by rfl, ?_⟩) ?_ ?_
     rotate_left
     ·intro w'
      go_simp
      with_reducible rfl
     rotate_left
     ·simp only [Act.put, Za, Zb, Zc, i64_w, i32_w]
      rfl
     refine last_ (i := 8) (N := none) (zb 9 511) rfl rfl (by kernel_rfl) (by decide) (fun K hK => ?_)
     have hf6 : w6.frozen? ⟨w.heap.size + 1 + 1, 2, none⟩ = false := blk_frozen b26 2
     have hc6 : w6.cell? ⟨w.heap.size + 1 + 1, 2, none⟩ = some vA := (blk_cell b26 2).trans rfl
     refine skip_ (w1 := w6.setCell ⟨w.heap.size + 1 + 1, 2, none⟩ (.slice A6 (((li.take i).map acc) ++ [acc k]).length c6)) (by rfl) rfl (by first | (go_simp; done) | (go_simp; rfl)) ?_
     refine hK.out _ _ ?_
     refine done_ (by kernel_rfl) ?_
     have h7 : H w tapes (s1, s2) (((li.take i).map acc) ++ [acc k]) (ents lj) lj rws wo.heap.size k r (.slice Ar r.length cr) (.slice A' lj.length c') (.slice A6 (((li.take i).map acc) ++ [acc k]).length c6) vN (w6.setCell ⟨w.heap.size + 1 + 1, 2, none⟩ (.slice A6 (((li.take i).map acc) ++ [acc k]).length c6)) := h6
     clear h h2 h3 h4 h5 h6 hf6 hc6 b26 bK6 hR6 hg6 hb6 hHeld c20 c21
     generalize w6.setCell ⟨w.heap.size + 1 + 1, 2, none⟩ (.slice A6 (((li.take i).map acc) ++ [acc k]).length c6) = w7 at h7 ⊢
     have c73 : w7.cell? ⟨w.heap.size + 1 + 1, 3, none⟩ = some vN := (blk_cell h7.g.b2 3).trans rfl
     go_wp2_with ((with_reducible refine gate_builtin (b := .append) (xs := #[.tmp 88, .tmp 90]) rfl ?_); at_builtin; refine R_append' (Kd.slice 3 (Kd.int .i64)) (w0 := w) w.heap.size rfl (.tmp 88) (.tmp 90) 64 87 (.slice none 0 0) 24 rfl Tryd.underlying64 info_ints rfl (by decide) (by decide) vN (rws.map ints) (ints r) [.slice Ar r.length cr] (fun _ => True) (fun j => True ∧ some j ≠ vN.ownBlock) _ (by simp) rfl rfl (Kd.M_row (R_typed h7.row h7.g.nxt (by decide))) (fun _ hk => hk) (fun _ _ => trivial) (Kd.R_mono h7.g.nxt (fun _ _ => trivial)) h7.g.bel (Below.size h7.g.bel) (by have := hrl.out; simp; omega) ?_; intro v8 w8 hR8 hb8 hg8 hat8; obtain ⟨A8, c8, hv8⟩ := Kd.R_slice hR8; have ev8 : (rws.map ints ++ [ints r]).length = rws.length + 1 := (by simp); rw [ev8] at hv8; subst hv8; obtain ⟨b28, h8⟩ := h7.nxt hg8 hR8 hb8; have c83 : w8.cell? ⟨w.heap.size + 1 + 1, 3, none⟩ = some vN := (blk_cell b28 3).trans rfl; have f83 : w8.frozen? ⟨w.heap.size + 1 + 1, 3, none⟩ = false := blk_frozen b28 3)
     go_roundg kf
     case measure => omega
     case rel =>
      have e1 : (lj.take (i + 1)).map acc = (li.take i).map acc ++ [acc k] := by rw [HR2.out.1, htr.out.1, List.map_append]; rfl
      exact ⟨i + 1, lj, rws ++ [r], A', c', _, _, rfl, (by go_num), ⟨by rw [HR2.out.1, HR2.out.2]; exact HH.out⟩, ⟨by have := hrl.out; simp; omega⟩, (by rw [HR2.out.1]; exact htr.out.2), hQj, ⟨by rw [e1]; exact h8⟩⟩
  ·have hii : i = li.length := by omega
   subst hii
   cases gk with
   | zero => exact absurd H.out (by simp [bfs])
   | succ kf =>
   have H1 := H.out
   unfold bfs at H1
   rw [dif_neg (by omega)] at H1
   simp only [Option.some.injEq, Prod.mk.injEq] at H1
   obtain ⟨rfl, rfl⟩ := H1
   replace g := g.out
   rw [List.take_of_length_le (Nat.le_refl _)] at g
   have hlt1 : ((li.length : Int) < (li.length : Int)) = False := eq_false (by omega)
   obtain ⟨AA, cA, rfl⟩ := Kd.R_slice g.acc
   obtain ⟨AN, cN, rfl⟩ := Kd.R_slice g.nxt
   have d0 : wo.cell? ⟨w.heap.size + 1 + 1, 0, none⟩ = some (.int .i64 tapes) := (blk_cell g.b2 0).trans rfl
   have d1 : wo.cell? ⟨w.heap.size + 1 + 1, 1, none⟩ = some (.int .i64 0) := (blk_cell g.b2 1).trans rfl
   have d2 : wo.cell? ⟨w.heap.size + 1 + 1, 2, none⟩ = some (.slice AA (li.map acc).length cA) := (blk_cell g.b2 2).trans rfl
   have d3 : wo.cell? ⟨w.heap.size + 1 + 1, 3, none⟩ = some (.slice AN (rws.map ints).length cN) := (blk_cell g.b2 3).trans rfl
   have e0 : wo.cell? ⟨w.heap.size + 1, 0, none⟩ = some (.int .i64 0) := (blk_cell g.b1 0).trans rfl
   have e1 : wo.cell? ⟨w.heap.size + 1, 1, none⟩ = some (.int .i64 0) := (blk_cell g.b1 1).trans rfl
   have e2 : wo.cell? ⟨w.heap.size + 1, 2, none⟩ = some (.slice none 0 0) := (blk_cell g.b1 2).trans rfl
   have e3 : wo.cell? ⟨w.heap.size + 1, 3, none⟩ = some (.slice none 0 0) := (blk_cell g.b1 3).trans rfl
   have f0 : wo.frozen? ⟨w.heap.size + 1, 0, none⟩ = false := blk_frozen g.b1 0
   have f1 : wo.frozen? ⟨w.heap.size + 1, 1, none⟩ = false := blk_frozen g.b1 1
   have f2 : wo.frozen? ⟨w.heap.size + 1, 2, none⟩ = false := blk_frozen g.b1 2
   have f3 : wo.frozen? ⟨w.heap.size + 1, 3, none⟩ = false := blk_frozen g.b1 3
   go_wp2_with fail
   have hA := g.acc
   have hN := g.nxt
   have hB := g.bel
   have b := g.b1
   clear d0 d1 d2 d3 e0 e1 e2 e3 f0 f1 f2 f3 g
   rw [List.length_map] at hA hN
   have b1 := blk_put b 0 (.int .i64 tapes) rfl
   have b2 := blk_put b1 1 (.int .i64 0) rfl
   have b3 := blk_put b2 2 (.slice AA li.length cA) rfl
   have b4 := blk_put b3 3 (.slice AN rws.length cN) rfl
   refine bodyPost_ret (results_ct rfl _ _ (w.heap.size + 1) 66 #[.int .i64 tapes, .int .i64 0, .slice AA li.length cA, .slice AN rws.length cN] (0, 0) _ rfl b4 Tryd.underlying66 rfl (by kernel_rfl)) rfl ⟨_, _, rfl, ?_, ?_, ?_⟩
   ·exact Kd.R_set (Kd.R_set (Kd.R_set (Kd.R_set hA b (by decide) 0 _) b1 (by decide) 1 _) b2 (by decide) 2 _) b3 (by decide) 3 _
   ·exact Kd.R_mono (Kd.R_set (Kd.R_set (Kd.R_set (Kd.R_set hN b (by decide) 0 _) b1 (by decide) 1 _) b2 (by decide) 2 _) b3 (by decide) 3 _) (fun _ _ => trivial)
   ·exact (((hB.setCell (by simp) _).setCell (by simp) _).setCell (by simp) _).setCell (by simp) _
end Go.Proofs.YtnjdkhnepmmfgaaDoor.GwP
namespace Go.Proofs.YtnjdkhnepmmfgaaDoor.Td
set_option linter.unusedVariables false
set_option linter.unusedSimpArgs false
open Go.RowKit Go.Proofs.YtnjdkhnepmmfgaaDoorW.PrintWords Go.Proofs.YtnjdkhnepmmfgaaDoorW.PrintLast Go.Proofs.YtnjdkhnepmmfgaaDoorW.PrintMore Mp Kp Ky Fv Tdy Cl Mg
/-- The tapes on which digits have a pad, from tape t on. -/
def padsF : Nat → Nat → List Nat → Nat
 | p, _, [] => p
 | p, t, d :: ds => padsF (if d = 2 then p ||| (1 <<< t) else p) (t + 1) ds
theorem or_fact : ∀ t : Nat, t < 3 → ∀ p : Nat, p < 8 → bits .or .i64 (p : Int) ((1 <<< t : Nat) : Int) = ((p ||| (1 <<< t) : Nat) : Int) ∧ p ||| (1 <<< t) < 8 := by decide
theorem padsF_lt : ∀ (ds : List Nat) (p t : Nat), p < 8 → t + ds.length ≤ 3 → padsF p t ds < 8
 | [], p, t, hp, _ => hp
 | d :: ds, p, t, hp, ht => by
  rw [List.length_cons] at ht
  refine padsF_lt ds _ _ ?_ (by omega)
  split
  ·exact (or_fact t (by omega) p hp).2
  ·exact hp
def padOf (dig : Nat → List Nat) (c : Nat) : Nat := padsF 0 0 (dig c)
def padsTo (dig : Nat → List Nat) (wd c : Nat) : List Nat := (List.range c).map (padOf dig) ++ List.replicate (wd - c) 0
theorem num_at' {W : World} {e base n c i : Nat} {A : Option Addr} {ok : Nat → Prop} {l : List Nat} (h : (Kd.int .i64).R e W base ok (.slice A n c) (ints l)) (hi : i < l.length) : ∃ ad, A = some ad ∧ W.cell? (ad.add i) = some (.int .i64 (l[i] : Int)) := by
 obtain ⟨_, _, hC⟩ := Kd.R_reads' h
 obtain ⟨ad, e1, k1⟩ := at_num hC i (by rw [ints_length]; exact hi)
 rw [ints_get l i _ hi] at k1
 exact ⟨ad, e1, k1⟩
def padsAt (dig : Nat → List Nat) (wd c p : Nat) : List Nat := (List.range c).map (padOf dig) ++ p :: List.replicate (wd - (c + 1)) 0
theorem padsTo_at (dig : Nat → List Nat) {wd c : Nat} (h : c < wd) : padsTo dig wd c = padsAt dig wd c 0 := by
 have e : wd - c = (wd - (c + 1)) + 1 := by omega
 unfold padsTo padsAt
 rw [e, List.replicate_succ]
theorem padsAt_to (dig : Nat → List Nat) {wd c : Nat} : padsAt dig wd c (padOf dig c) = padsTo dig wd (c + 1) := by
 unfold padsTo padsAt
 rw [List.range_succ, List.map_append, List.append_assoc]
 rfl
theorem padsAt_length (dig : Nat → List Nat) {wd c p : Nat} (h : c < wd) : (padsAt dig wd c p).length = wd := by
 unfold padsAt
 simp only [List.length_append, List.length_map, List.length_range, List.length_cons, List.length_replicate]
 omega
theorem padsAt_get (dig : Nat → List Nat) {wd c p : Nat} (h : c < (padsAt dig wd c p).length) : (padsAt dig wd c p)[c] = p := by
 have e : (padsAt dig wd c p)[c]? = some p := by
  unfold padsAt
  rw [List.getElem?_append_right (by simp)]
  simp
 rw [List.getElem?_eq_getElem h] at e
 exact Option.some.inj e
theorem padsAt_set (dig : Nat → List Nat) {wd c p q : Nat} : (padsAt dig wd c p).set c q = padsAt dig wd c q := by
 unfold padsAt
 rw [List.set_append_right _ _ (by simp)]
 simp
abbrev Pl := GwP.Pl
def accP (accs : List Bool) (p : Pl) : Bool := if p.2 < 0 then false else accs.getD p.1.toNat false
def nxtP (rows : List (List Nat)) (pad : Nat → Nat) (p : Pl) (c : Nat) : Pl := if p.2 < 0 ∨ bits .andNot .i64 p.2 (pad c : Int) ≠ 0 then (0, -1) else ((((rows.getD p.1.toNat []).getD c 0 : Nat) : Int), (pad c : Int))
/-- A place that may be met. -/
def Met8 (n : Nat) (p : Pl) : Prop := p = (0, -1) ∨ ∃ s e : Nat, s < n ∧ e < 8 ∧ p = ((s : Int), (e : Int))
structure Tidied (wd : Nat) (rows : List (List Nat)) (accs : List Bool) (start : Nat) (pad : Nat → Nat) (bs : List Bool) (rws : List (List Nat)) : Prop where
 is : ∃ f lp rp f1 g f2 l, bfs id (nxtP rows pad) (List.range wd) 0 f 0 [((start : Int), (0 : Int))] [] = some (some (lp, rp)) ∧ classes rp f1 (first (lp.map (accP accs))) 0 = some g ∧ byClass wd rp g (oneOf g) 0 f2 = some (some (l, rws)) ∧ bs = l.map (fun a => (lp.map (accP accs)).getD (oneOf g a) false)
theorem met8_next {wd : Nat} {rows : List (List Nat)} {accs : List Bool} (hcl : Closed wd rows accs) {pad : Nat → Nat} (hp : ∀ c, c < wd → pad c < 8) {p : Pl} (h : Met8 rows.length p) {c : Nat} (hc : c < wd) : Met8 rows.length (nxtP rows pad p c) := by
 unfold nxtP
 split
 ·exact .inl rfl
 ·rename_i hn
  rcases h with rfl | ⟨s, e, hs, he, rfl⟩
  ·exact absurd (.inl (by decide)) hn
  ·refine .inr ⟨_, _, ?_, hp c hc, rfl⟩
   have := hcl.step hs hc
   simpa [mach] using this
theorem places_len {wd n : Nat} {nxt : Pl → Nat → Pl} {s : Pl} {f : Nat} {l : List Pl} {rws : List (List Nat)} (h : bfs id nxt (List.range wd) 0 f 0 [s] [] = some (some (l, rws))) (hs : Met8 n s) (hn : ∀ p c, Met8 n p → c < wd → Met8 n (nxt p c)) : l.length ≤ 8 * n + 1 := by
 have hd := (bfs_done f 0 [s] [] l rws h (Nat.zero_le _) rfl (List.pairwise_singleton _ _) (fun r hr => by cases hr) (fun i hi => by cases hi)).1
 have ha := bfs_all (Q := Met8 n) (fun p hp c hc => hn p c hp (List.mem_range.1 hc)) f 0 [s] [] l rws h (fun x hx => by rw [List.mem_singleton.1 hx]; exact hs)
 have := nodup_le (l := l.map (fun p : Pl => if p.2 < 0 then 0 else 8 * p.1.toNat + p.2.toNat + 1)) (m := List.range (8 * n + 1)) (by
  rw [List.nodup_iff_pairwise_ne, List.pairwise_map]
  refine List.Pairwise.imp_of_mem ?_ hd.apart
  intro a b hA hB hne e
  apply hne
  rcases ha a hA with rfl | ⟨s, e1, h1, h2, rfl⟩ <;> rcases ha b hB with rfl | ⟨s', e', h1', h2', rfl⟩
  ·rfl
  ·exfalso; simp at e; try omega
  ·exfalso; simp at e; try omega
  ·have e0 : ¬ ((e1 : Int) < 0) := by omega
   have e0' : ¬ ((e' : Int) < 0) := by omega
   simp only [e0, e0', if_false, Int.toNat_natCast] at e
   have hs : s = s' := by omega
   have he : e1 = e' := by omega
   rw [hs, he]) (fun x hx => by
  obtain ⟨p, hp, rfl⟩ := List.mem_map.1 hx
  rw [List.mem_range]
  rcases ha p hp with rfl | ⟨s, e1, h1, h2, rfl⟩
  ·simp
  ·have e0 : ¬ ((e1 : Int) < 0) := by omega
   simp only [e0, if_false, Int.toNat_natCast]
   omega)
 simpa using this
theorem grownP (tapes start : Nat) (accs : List Bool) (rows : List (List Nat)) (wd : Nat) (hwd2 : wd ≤ 30) (hcl : Closed wd rows accs) (hn : rows.length ≤ 100000) (hst : start < rows.length)
  (hwd : ∀ W, Calls Tryd.prog 94 #[.int .i64 tapes] W fun e W' => e = .returned (.int .i64 wd) ∧ Below W.heap.size W W')
  (pad : Nat → Nat) (hpad : ∀ c, c < wd → pad c < 8) (g gP : Nat) (W : World) (hmach : Mach W g tapes start accs (rows.map ints)) (hnum : Nums W gP (ints ((List.range wd).map pad)))
  (f : Nat) (lp : List Pl) (rp : List (List Nat)) (hr : bfs id (nxtP rows pad) (List.range wd) 0 f 0 [((start : Int), (0 : Int))] [] = some (some (lp, rp))) :
  Calls Tryd.prog 106 #[.int .i64 tapes, .agg #[.int .i64 (start : Int), .int .i64 0], .int .i64 0, .func (.func 107) #[] #[.pointer (some ⟨g, 0, none⟩)],
    .func (.func 108) #[] #[.pointer (some ⟨gP, 0, none⟩), .pointer (some ⟨g, 0, none⟩)]] W fun e W' => ∃ vA vN, e = .returned (.tuple #[.agg #[.int .i64 tapes, .int .i64 0, vA, vN], .bool true]) ∧
   Kd.R Kd.bool 4 W' W.heap.size (fun _ => True) vA (lp.map (accP accs)) ∧ Kd.R (Kd.slice 3 (Kd.int .i64)) 87 W' W.heap.size (fun _ => True) vN (rp.map ints) ∧ Below W.heap.size W W' := by
 have hs0 : Met8 rows.length ((start : Int), (0 : Int)) := .inr ⟨start, 0, hst, by omega, rfl⟩
 have hlen := places_len hr hs0 (fun p c hp hc => met8_next hcl hpad hp hc)
 have hpl : (ints ((List.range wd).map pad)).length = wd := by rw [ints_length]; simp
 have hpg : ∀ c (hc : c < (ints ((List.range wd).map pad)).length), (ints ((List.range wd).map pad))[c] = (pad c : Int) := fun c hc => by
  rw [ints_get _ c _ (by simpa using (by omega : c < wd))]; simp
 refine GwP.grow tapes ((start : Int), (0 : Int)) (.func (.func 107) #[] #[.pointer (some ⟨g, 0, none⟩)])
  (.func (.func 108) #[] #[.pointer (some ⟨gP, 0, none⟩), .pointer (some ⟨g, 0, none⟩)]) (accP accs) (nxtP rows pad) W wd hwd2 hwd (Met8 rows.length) hs0 ?_ (fun p c hp hc => met8_next hcl hpad hp hc) ?_ ?_ f lp rp hr (by omega)
 ·rintro k (rfl | ⟨s, e, hs, he, rfl⟩)
  ·exact ⟨⟨by decide, by decide⟩, ⟨by decide, by decide⟩⟩
  ·exact ⟨⟨by simp only; omega, by simp only; omega⟩, ⟨by simp only; omega, by simp only; omega⟩⟩
 ·rintro k (rfl | ⟨s, e, hs, he, rfl⟩)
  ·refine ⟨_, _, _, rfl, Tryd.func107, rfl, rfl, fun W' hb => ?_⟩
   exact t1_dead g 0 (-1) W' (by decide)
  ·refine ⟨_, _, _, rfl, Tryd.func107, rfl, rfl, fun W' hb => ?_⟩
   have h1 := t1_live g tapes start accs (rows.map ints) s (e : Int) W' (hmach.below hb) (by omega) (by rw [← hcl.len]; exact hs)
   refine Calls.mono h1 ?_
   rintro e' w' ⟨rfl, h2⟩
   refine ⟨?_, h2⟩
   have e0 : ¬ ((e : Int) < 0) := by omega
   simp only [accP, e0, if_false, Int.toNat_natCast]
   rw [List.getD_eq_getElem?_getD, List.getElem?_eq_getElem (by rw [← hcl.len]; exact hs)]
   rfl
 ·rintro k c (rfl | ⟨s, e, hs, he, rfl⟩) hc
  ·refine ⟨_, _, _, rfl, Tryd.func108, rfl, rfl, fun W' hb => ?_⟩
   refine Calls.mono (t2_dead gP g 0 (-1) (c : Int) W' (by decide)) ?_
   rintro e' w' ⟨rfl, h2⟩
   refine ⟨?_, h2⟩
   unfold nxtP
   rw [if_pos (.inl (by decide))]
   rfl
  ·refine ⟨_, _, _, rfl, Tryd.func108, rfl, rfl, fun W' hb => ?_⟩
   by_cases hz : bits .andNot .i64 (e : Int) (pad c : Int) = 0
   ·have hw : rows[s].length = wd := hcl.wide _ (List.getElem_mem _)
    have er : (rows.map ints)[s]'(by rw [List.length_map]; exact hs) = ints rows[s] := by simp
    have h1 := t2_live gP g tapes start accs (rows.map ints) s (e : Int) (ints ((List.range wd).map pad)) c W' (hnum.below hb) (hmach.below hb) (by omega) (by rw [List.length_map]; exact hs) (by rw [er, ints_length]; omega) (by omega) (by rw [hpg]; exact hz)
    refine Calls.mono h1 ?_
    rintro e' w' ⟨rfl, h2⟩
    refine ⟨?_, h2⟩
    have e0 : ¬ ((e : Int) < 0 ∨ bits .andNot .i64 (e : Int) (pad c : Int) ≠ 0) := by
     rintro (h | h)
     ·omega
     ·exact h hz
    rw [hpg]
    unfold nxtP
    rw [if_neg e0]
    simp only [er, Int.toNat_natCast, GwP.encP]
    rw [ints_get _ c _ (by omega), List.getD_eq_getElem?_getD (l := rows), List.getElem?_eq_getElem hs, Option.getD_some, List.getD_eq_getElem?_getD, List.getElem?_eq_getElem (by omega)]
    rfl
   ·have h1 := t2_off gP g (s : Int) (e : Int) (ints ((List.range wd).map pad)) c W' (hnum.below hb) (by omega) (by omega) (by rw [hpg]; exact hz)
    refine Calls.mono h1 ?_
    rintro e' w' ⟨rfl, h2⟩
    refine ⟨?_, h2⟩
    unfold nxtP
    rw [if_pos (.inr hz)]
    rfl
end Go.Proofs.YtnjdkhnepmmfgaaDoor.Td
