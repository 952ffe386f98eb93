/-
  Texts put together: YtinfbpldgobmfaaBk, YtinfbpldgobmfaaBkC, YtinfbpldgobmfaaBkS, YtinfbpldgobmfaaBkO, YtinfbpldgobmfaaBkF, YtinfbpldgobmfaaBkM, YtinfbpldgobmfaaBkD.
-/
import Derived.Test.YtinfbpldgobmfaaBase
import Derived.Sort.Walk0
import Derived.Shelf.SlSortCmp.WholeK
import Derived.Shelf.SlSortCmp.NoneTotal
import Derived.Shelf.SlGeneric
import Derived.Shelf.SlicesQ.IndexFunc
import Derived.Shelf.SlicesQ.Contains
namespace Go.Proofs.Ytinfbpldgobmfaa
open Go.RowKit
set_option linter.unusedSimpArgs false
set_option linter.unusedVariables false

structure BK where
  some : Bool
  dirty : Bool
  data : List UInt8
deriving DecidableEq, Inhabited
def strB (l : List UInt8) : Value := .string ⟨l.toArray⟩
def BK.cells (b : BK) : List Value := [.bool b.some, .bool b.dirty, strB b.data]
def BK.none : BK := ⟨false, false, []⟩
def bkC (es : List BK) : List Value := es.flatMap BK.cells
def IsBks (v : Value) (es : List BK) (H : HL) : Prop := IsRow 71 3 v es.length (bkC es) H
def BksAt (w : World) (v : Value) (es : List BK) : Prop := ReadsAt w 3 v es.length (bkC es)
theorem tBlks : SlT Try.prog 66 71 3 24 (.agg #[.bool false, .bool false, .string ⟨#[]⟩]) := SlT.mk' (by kernel_rfl) (by kernel_rfl) (by rfl) (by decide)

theorem bkC_len (es : List BK) : (bkC es).length = es.length * 3 := by
  unfold bkC
  induction es with
  | nil => rfl
  | cons e es ih => simp only [List.flatMap_cons, List.length_append, ih, List.length_cons]; simp [BK.cells]; omega
theorem bkC_one {es : List BK} : ∀ x ∈ bkC es, x.oneCell' = true := by
  intro x hx
  obtain ⟨e, _, hx⟩ := List.mem_flatMap.1 hx
  simp [BK.cells, strB] at hx
  rcases hx with rfl | rfl | rfl <;> rfl
theorem bkC_append (a b : List BK) : bkC (a ++ b) = bkC a ++ bkC b := by simp [bkC]
theorem bkC_get : ∀ (es : List BK) (i : Nat) (h : i < es.length), (bkC es)[i * 3]? = some (.bool es[i].some) ∧ (bkC es)[i * 3 + 1]? = some (.bool es[i].dirty) ∧ (bkC es)[i * 3 + 2]? = some (strB es[i].data) := by
  intro es
  induction es with
  | nil => intro i h; simp at h
  | cons e es ih =>
    intro i h
    match i with
    | 0 => simp [bkC, BK.cells]
    | i + 1 =>
      have := ih i (by simpa using h)
      unfold bkC at *
      rw [show (i + 1) * 3 = i * 3 + 1 + 1 + 1 by omega]
      simpa [BK.cells, show i * 3 + 1 + 1 + 1 + 1 = (i * 3 + 1) + 1 + 1 + 1 by omega, show i * 3 + 1 + 1 + 1 + 2 = (i * 3 + 2) + 1 + 1 + 1 by omega] using this
theorem IsBks.nil : IsBks (.slice none 0 0) [] [] := IsRow.nil _ _
theorem IsBks.at_ {v : Value} {es : List BK} {H Fr : HL} {w : World} (h : IsBks v es H) (hH : Holds w (H ++ Fr)) : BksAt w v es := IsRow.reads h hH
theorem IsBks.val {v : Value} {es : List BK} {H : HL} (h : IsBks v es H) : ∃ A c, v = .slice A es.length c := IsRow.val h
theorem BksAt.val {v : Value} {es : List BK} {w : World} (h : BksAt w v es) : ∃ A c, v = .slice A es.length c := by obtain ⟨_, A, c, hv, _⟩ := h; exact ⟨A, c, hv⟩
theorem BksAt.keep {w w' : World} {v : Value} {es : List BK} (h : BksAt w v es) (hk : ∀ p u, w.cell? p = some u → w'.cell? p = some u) : BksAt w' v es := ReadsAt.keep h hk
def BkCells (w : World) (b o : Nat) (e : BK) : Prop := w.cell? ⟨b, o, none⟩ = some (.bool e.some) ∧ w.cell? ⟨b, o + 1, none⟩ = some (.bool e.dirty) ∧ w.cell? ⟨b, o + 2, none⟩ = some (strB e.data)
theorem BksAt.cells {w : World} {v : Value} {es : List BK} (h : BksAt w v es) : ∃ A c, v = .slice A es.length c ∧ es.length ≤ c ∧ c ≤ maxLen ∧ (0 < es.length → ∃ b o, A = some ⟨b, o, none⟩ ∧ ∀ i (hi : i < es.length), BkCells w b (o + i * 3) es[i]) := by
  obtain ⟨_, A, c, hv, h1, h2, h3⟩ := h
  refine ⟨A, c, hv, h1, h2, fun h0 => ?_⟩
  obtain ⟨b, o, hA, hc⟩ := h3 h0
  refine ⟨b, o, hA, fun i hi => ?_⟩
  obtain ⟨e1, e2, e3⟩ := bkC_get es i hi
  exact ⟨hc _ _ e1, hc _ _ e2, hc _ _ e3⟩

/-! ### which goes ahead -/
def rankB (b : BK) : Int := if !b.some then 0 else if !b.dirty then 1 else 2
def cmpN (x y : Int) : Int := if x < y then -1 else if y < x then 1 else 0
def cmpS (x y : List UInt8) : Int := if Op.bytesLess x y then -1 else if x == y then 0 else 1
def orI (x y : Int) : Int := if x != 0 then x else y
def cmpB (x y : BK) : Int := orI (cmpN (rankB x) (rankB y)) (cmpS x.data y.data)
theorem strB_toList (l : List UInt8) : (ByteArray.mk l.toArray).toList = l := by
  rw [ByteArray.toList_eq]
theorem idrank_any (b : BK) (w : World) (Fr : HL) (hH : Holds w Fr) : Calls Try.prog 69 #[.agg b.cells.toArray] w fun e w' => e = .returned (.int .i64 (rankB b)) ∧ w' = w.alloc (.cells b.cells.toArray 71) := by
  obtain ⟨b0, b1, b2⟩ := b
  have HR := Lib.hid (rfl : rankB ⟨b0, b1, b2⟩ = rankB ⟨b0, b1, b2⟩)
  simp only [BK.cells, strB]
  cases b0 <;> cases b1
  all_goals
    go_enter Try.func69, Try.ntmps69
    go_wp2_with fail
    go_ret
    exact ⟨rfl, rfl⟩
theorem nanStr_any (x : List UInt8) (w : World) : Calls Try.prog 78 #[strB x] w fun e w' => e = .returned (.bool false) ∧ w = w' := by
  unfold strB
  go_enter Try.func78, Try.ntmps78
  go_wp2_with fail
  go_ret
  exact ⟨ret_b (by simp), rfl⟩
end Go.Proofs.Ytinfbpldgobmfaa
namespace Go.Proofs.Ytinfbpldgobmfaa
open Go.RowKit
set_option linter.unusedSimpArgs false
set_option linter.unusedVariables false

theorem nanInt_any (x : Int) (w : World) : Calls Try.prog 77 #[.int .i64 x] w fun e w' => e = .returned (.bool false) ∧ w = w' := by
  go_enter Try.func77, Try.ntmps77
  go_wp2_with fail
  go_ret
  exact ⟨ret_b (by simp), rfl⟩
set_option maxRecDepth 20000 in
theorem cmpInt_any (x y : Int) (w : World) : Calls Try.prog 68 #[.int .i64 x, .int .i64 y] w fun e w' => e = .returned (.int .i64 (cmpN x y)) ∧ w = w' := by
  have H1 := Lib.hid (nanInt_any x w)
  have H2 := Lib.hid (nanInt_any y w)
  by_cases h1 : x < y
  · have hc := Lib.hid (show cmpN x y = -1 by unfold cmpN; rw [if_pos h1])
    go_enter Try.func68, Try.ntmps68
    go_wp2_with fail
    refine H1.out.mono ?_
    rintro e w1 ⟨rfl, rfl⟩
    go_wp2_with fail
    refine H2.out.mono ?_
    rintro e w1 ⟨rfl, rfl⟩
    go_wp2_with fail
    go_ret
    rw [hc.out]; exact ⟨rfl, rfl⟩
  · by_cases h2 : y < x
    · have hc := Lib.hid (show cmpN x y = 1 by unfold cmpN; rw [if_neg h1, if_pos h2])
      go_enter Try.func68, Try.ntmps68
      go_wp2_with fail
      refine H1.out.mono ?_
      rintro e w1 ⟨rfl, rfl⟩
      go_wp2_with fail
      refine H2.out.mono ?_
      rintro e w1 ⟨rfl, rfl⟩
      go_wp2_with fail
      go_ret
      rw [hc.out]; exact ⟨rfl, rfl⟩
    · have hc := Lib.hid (show cmpN x y = 0 by unfold cmpN; rw [if_neg h1, if_neg h2])
      go_enter Try.func68, Try.ntmps68
      go_wp2_with fail
      refine H1.out.mono ?_
      rintro e w1 ⟨rfl, rfl⟩
      go_wp2_with fail
      refine H2.out.mono ?_
      rintro e w1 ⟨rfl, rfl⟩
      go_wp2_with fail
      go_ret
      rw [hc.out]; exact ⟨rfl, rfl⟩
set_option maxRecDepth 20000 in
theorem cmpStr_any (x y : List UInt8) (w : World) : Calls Try.prog 70 #[strB x, strB y] w fun e w' => e = .returned (.int .i64 (cmpS x y)) ∧ w = w' := by
  have H1 := Lib.hid (nanStr_any x w)
  have H2 := Lib.hid (nanStr_any y w)
  have e1 := strB_toList x
  have e2 := strB_toList y
  unfold strB at *
  cases h1 : Op.bytesLess x y with
  | true =>
    have hc := Lib.hid (show cmpS x y = -1 by unfold cmpS; rw [if_pos h1])
    go_enter Try.func70, Try.ntmps70
    go_wp2_with fail
    refine H1.out.mono ?_
    rintro e w1 ⟨rfl, rfl⟩
    go_wp2_with fail
    refine H2.out.mono ?_
    rintro e w1 ⟨rfl, rfl⟩
    go_wp2_with fail
    go_ret
    rw [hc.out]; exact ⟨rfl, rfl⟩
  | false =>
    cases h2 : (x == y) with
    | true =>
      have hc := Lib.hid (show cmpS x y = 0 by unfold cmpS; rw [if_neg (by rw [h1]; decide), if_pos h2])
      go_enter Try.func70, Try.ntmps70
      go_wp2_with fail
      refine H1.out.mono ?_
      rintro e w1 ⟨rfl, rfl⟩
      go_wp2_with fail
      refine H2.out.mono ?_
      rintro e w1 ⟨rfl, rfl⟩
      go_wp2_with fail
      go_ret
      rw [hc.out]; exact ⟨rfl, rfl⟩
    | false =>
      have hc := Lib.hid (show cmpS x y = 1 by unfold cmpS; rw [if_neg (by rw [h1]; decide), if_neg (by rw [h2]; decide)])
      go_enter Try.func70, Try.ntmps70
      go_wp2_with fail
      refine H1.out.mono ?_
      rintro e w1 ⟨rfl, rfl⟩
      go_wp2_with fail
      refine H2.out.mono ?_
      rintro e w1 ⟨rfl, rfl⟩
      go_wp2_with fail
      go_ret
      rw [hc.out]; exact ⟨rfl, rfl⟩
def OrTo (w : World) (x : Int) (i : Value) (wr : World) : Prop := (i = .int .i64 0 ∨ (i = .int .i64 1 ∧ x = 0) ∨ (i = .int .i64 2 ∧ x = 0)) ∧ wr = w
set_option maxRecDepth 20000 in
theorem cmpOr_any (x y : Int) (b : Nat) (w : World) (h0 : w.cell? ⟨b, 0, none⟩ = some (.int .i64 x)) (h1 : w.cell? ⟨b, 1, none⟩ = some (.int .i64 y)) : Calls Try.prog 67 #[.slice (some ⟨b, 0, none⟩) 2 2] w fun e w' => e = .returned (.int .i64 (orI x y)) ∧ w = w' := by
  by_cases hx : x = 0
  · subst hx
    by_cases hy : y = 0
    · subst hy
      go_enter Try.func67, Try.ntmps67
      go_wp2_with fail
      refine wp_loop_rounds 3 ?_
      rw [rounds_succ]; go_wp2_with fail
      rw [rounds_succ]; go_wp2_with fail
      rw [rounds_succ]; go_wp2_with fail
      go_ret
      exact ⟨rfl, rfl⟩
    · go_enter Try.func67, Try.ntmps67
      go_wp2_with fail
      refine wp_loop_rounds 2 ?_
      rw [rounds_succ]; go_wp2_with fail
      rw [rounds_succ]; go_wp2_with fail
      go_ret
      exact ⟨by simp [orI], rfl⟩
  · go_enter Try.func67, Try.ntmps67
    go_wp2_with fail
    refine wp_loop_rounds 1 ?_
    rw [rounds_succ]; go_wp2_with fail
    go_ret
    exact ⟨by simp [orI, hx], rfl⟩
end Go.Proofs.Ytinfbpldgobmfaa
namespace Go.Proofs.Ytinfbpldgobmfaa
def layIdSort_ren : Go.Shelf.Ren := ⟨fun | 6 => 65 | 15 => 75 | 14 => 76 | 28 => 88 | 29 => 89 | 20 => 90 | 21 => 91 | 22 => 92 | 23 => 93 | 24 => 94 | 25 => 95 | 26 => 96 | 27 => 97 | 46 => 104 | 47 => 99 | 48 => 100 | 49 => 105 | 50 => 106 | 57 => 108 | n => n, fun | 22 => 66 | 24 => 71 | 25 => 101 | 3 => 3 | 39 => 58 | 0 => 0 | 53 => 119 | 55 => 26 | 4 => 4 | 46 => 111 | 45 => 110 | 50 => 116 | 5 => 5 | 9 => 9 | 66 => 126 | 70 => 130 | 76 => 134 | 77 => 135 | n => n, fun | n => n⟩
theorem layIdSort : Go.Proofs.SlLaysF0.n6 Try.prog layIdSort_ren where
  mixed := by kernel_rfl
  f6 := ⟨ "slices.SortFunc[[]scullery/ideal.block,scullery/ideal.block]", by decide, Try.func65.trans (congrArg some (by kernel_rfl))⟩
  f14 := ⟨ "slices.pdqsortCmpFunc[scullery/ideal.block]", by decide, Try.func76.trans (congrArg some (by kernel_rfl))⟩
  f15 := Try.func75.trans (congrArg some (by kernel_rfl))
  f20 := ⟨ "slices.insertionSortCmpFunc[scullery/ideal.block]", by decide, Try.func90.trans (congrArg some (by kernel_rfl))⟩
  f21 := ⟨ "slices.heapSortCmpFunc[scullery/ideal.block]", by decide, Try.func91.trans (congrArg some (by kernel_rfl))⟩
  f22 := ⟨ "slices.breakPatternsCmpFunc[scullery/ideal.block]", by decide, Try.func92.trans (congrArg some (by kernel_rfl))⟩
  f23 := ⟨ "slices.choosePivotCmpFunc[scullery/ideal.block]", by decide, Try.func93.trans (congrArg some (by kernel_rfl))⟩
  f24 := ⟨ "slices.reverseRangeCmpFunc[scullery/ideal.block]", by decide, Try.func94.trans (congrArg some (by kernel_rfl))⟩
  f25 := ⟨ "slices.partialInsertionSortCmpFunc[scullery/ideal.block]", by decide, Try.func95.trans (congrArg some (by kernel_rfl))⟩
  f26 := ⟨ "slices.partitionEqualCmpFunc[scullery/ideal.block]", by decide, Try.func96.trans (congrArg some (by kernel_rfl))⟩
  f27 := ⟨ "slices.partitionCmpFunc[scullery/ideal.block]", by decide, Try.func97.trans (congrArg some (by kernel_rfl))⟩
  f28 := Try.func88.trans (congrArg some (by kernel_rfl))
  f29 := Try.func89.trans (congrArg some (by kernel_rfl))
  f46 := ⟨ "slices.siftDownCmpFunc[scullery/ideal.block]", by decide, Try.func104.trans (congrArg some (by kernel_rfl))⟩
  f47 := Try.func99.trans (congrArg some (by kernel_rfl))
  f48 := Try.func100.trans (congrArg some (by kernel_rfl))
  f49 := ⟨ "slices.medianAdjacentCmpFunc[scullery/ideal.block]", by decide, Try.func105.trans (congrArg some (by kernel_rfl))⟩
  f50 := ⟨ "slices.medianCmpFunc[scullery/ideal.block]", by decide, Try.func106.trans (congrArg some (by kernel_rfl))⟩
  f57 := ⟨ "slices.order2CmpFunc[scullery/ideal.block]", by decide, Try.func108.trans (congrArg some (by kernel_rfl))⟩
  t0 := Try.underlying0
  a0 := Try.isAgg0
  z0 := Try.sizeOf0
  v0 := Try.zeroValue0
  t3 := Try.underlying3
  a3 := Try.isAgg3
  z3 := Try.sizeOf3
  v3 := Try.zeroValue3
  t4 := Try.underlying4
  a4 := Try.isAgg4
  z4 := Try.sizeOf4
  v4 := Try.zeroValue4
  t5 := Try.underlying5
  a5 := Try.isAgg5
  z5 := Try.sizeOf5
  v5 := Try.zeroValue5
  t9 := Try.underlying9
  a9 := Try.isAgg9
  z9 := Try.sizeOf9
  v9 := Try.zeroValue9
  t22 := Try.underlying66
  a22 := Try.isAgg66
  z22 := Try.sizeOf66
  v22 := Try.zeroValue66
  t25 := Try.underlying101
  a25 := Try.isAgg101
  z25 := Try.sizeOf101
  v25 := Try.zeroValue101
  t39 := Try.underlying58
  a39 := Try.isAgg58
  z39 := Try.sizeOf58
  v39 := Try.zeroValue58
  t45 := Try.underlying110
  a45 := Try.isAgg110
  z45 := Try.sizeOf110
  v45 := Try.zeroValue110
  t46 := Try.underlying111
  a46 := Try.isAgg111
  z46 := Try.sizeOf111
  v46 := Try.zeroValue111
  t50 := Try.underlying116
  a50 := Try.isAgg116
  z50 := Try.sizeOf116
  v50 := Try.zeroValue116
  t53 := Try.underlying119
  a53 := Try.isAgg119
  z53 := Try.sizeOf119
  v53 := Try.zeroValue119
  t55 := Try.underlying26
  a55 := Try.isAgg26
  z55 := Try.sizeOf26
  v55 := Try.zeroValue26
  t66 := Try.underlying126
  a66 := Try.isAgg126
  z66 := Try.sizeOf126
  v66 := Try.zeroValue126
  t70 := Try.underlying130
  a70 := Try.isAgg130
  z70 := Try.sizeOf130
  v70 := Try.zeroValue130
  t76 := Try.underlying134
  a76 := Try.isAgg134
  z76 := Try.sizeOf134
  v76 := Try.zeroValue134
  t77 := Try.underlying135
  a77 := Try.isAgg135
  z77 := Try.sizeOf135
  v77 := Try.zeroValue135
open Go.RowKit
set_option linter.unusedSimpArgs false
set_option linter.unusedVariables false

section
variable {α : Type} [Inhabited α] (enc : α → Value)
theorem putCells_sizeB (xs : Array α) (c : Array Value) : (Go.Sort.putCells enc 0 xs c).size = c.size := by unfold Go.Sort.putCells; simp
theorem putCells_takeB (xs : List α) (c : Array Value) (h : xs.length ≤ c.size) : (Go.Sort.putCells enc 0 xs.toArray c).toList.take xs.length = xs.map enc := by
  apply List.ext_getElem
  · simp [Go.Sort.putCells]; omega
  · intro i h1 h2
    have hi : i < xs.length := by simpa using h2
    simp [Go.Sort.putCells, hi]
theorem putRow_rowB {w : World} {g : Nat} {cur : Array Value} {t : TypeId} {fz : Nat × Nat} {H : HL} (n : Nat) (os : Array Obj) (xs : Array α) (hH : Holds w ((g, .cells cur t fz) :: H)) :
    Holds (Go.Sort.grow (Go.Sort.putRow enc (Go.Sort.ahead w n) g 0 xs) os) ((g, .cells (Go.Sort.putCells enc 0 xs cur) t fz) :: H) ∧
      Grew w (Go.Sort.grow (Go.Sort.putRow enc (Go.Sort.ahead w n) g 0 xs) os) := by
  have hheap : (Go.Sort.grow (Go.Sort.putRow enc (Go.Sort.ahead w n) g 0 xs) os).heap = w.heap.modify g (Go.Sort.onCells (Go.Sort.putCells enc 0 xs)) ++ os := rfl
  refine ⟨⟨fun c => ?_, fun p hp => ?_⟩, ⟨rfl, rfl, rfl, ?_⟩⟩
  · have := hH.one c; rw [keyc_cons] at this ⊢; exact this
  · rw [hheap]
    rcases List.mem_cons.1 hp with rfl | hp
    · have hg := hH.get (List.mem_cons_self)
      have hlt := (Array.getElem?_eq_some_iff.1 hg).1
      rw [Array.getElem?_append_left (by simpa using hlt), Array.getElem?_modify, if_pos rfl, hg]
      rfl
    · have hne := Holds.apart (A := [(g, Obj.cells cur t fz)]) (B := H) (by simpa using hH) (List.mem_singleton.2 rfl) hp
      have hm := hH.mem p (List.mem_cons_of_mem _ hp)
      have hlt := (Array.getElem?_eq_some_iff.1 hm).1
      rw [Array.getElem?_append_left (by simpa using hlt), Array.getElem?_modify, if_neg hne, hm]
  · rw [hheap]; simp
end
theorem flatK_bkC (es : List BK) : Go.Sort.flatK BK.cells 3 es.toArray = (bkC es).toArray := by
  refine Go.Sort.ext_get! (by simp [bkC_len]) fun t ht => ?_
  have ht' : t < es.toArray.size * 3 := by simpa using ht
  rw [Go.Sort.get_flatK _ _ _ _ ht']
  have hi : t / 3 < es.length := by simp at ht'; omega
  obtain ⟨e1, e2, e3⟩ := bkC_get es (t / 3) hi
  have h4 : t % 3 = 0 ∨ t % 3 = 1 ∨ t % 3 = 2 := by omega
  have hx : es.toArray[t / 3]! = es[t / 3] := by rw [getElem!_pos es.toArray (t / 3) (by simpa using hi)]; rfl
  rw [hx]
  have hq : ∀ (k : Nat) (u : Value), t = t / 3 * 3 + k → (bkC es)[t / 3 * 3 + k]? = some u → (bkC es).toArray[t]! = u := by
    intro k u hk hu
    rw [← hk] at hu
    have := (List.getElem?_eq_some_iff.1 hu)
    rw [getElem!_pos (bkC es).toArray t (by simpa using this.1)]
    simpa using this.2
  rcases h4 with h | h | h
  · rw [hq 0 _ (by omega) e1, h]; rfl
  · rw [hq 1 _ (by omega) e2, h]; rfl
  · rw [hq 2 _ (by omega) e3, h]; rfl

/-! ### the closure -/
theorem growA (w : World) (os : Array Obj) (o : Obj) : (Go.Sort.grow w os).alloc o = Go.Sort.grow w (os.push o) := by
  rw [Go.Sort.alloc_eq_grow, Go.Sort.grow_grow]; congr 1
set_option maxRecDepth 20000 in
set_option maxHeartbeats 1000000 in
theorem idless_any (x y : BK) (W : World) : Calls Try.prog 66 #[.agg x.cells.toArray, .agg y.cells.toArray] W fun e w' => e = .returned (.int .i64 (cmpB x y)) ∧ ∃ q os', w' = Go.Sort.grow (W.drewN q) os' := by
  have hcmp : cmpB x y = orI (cmpN (rankB x) (rankB y)) (cmpS x.data y.data) := rfl
  have HRX := Lib.hid (fun w => idrank_any x w [] (Holds.nil_ w))
  have HRY := Lib.hid (fun w => idrank_any y w [] (Holds.nil_ w))
  have HCS := Lib.hid (fun w => cmpStr_any x.data y.data w)
  have HCN := Lib.hid (fun w => cmpInt_any (rankB x) (rankB y) w)
  have HOR := Lib.hid (fun b w h1 h2 => cmpOr_any (cmpN (rankB x) (rankB y)) (cmpS x.data y.data) b w h1 h2)
  rw [hcmp]
  clear hcmp
  generalize rankB x = rx at *
  generalize rankB y = ry at *
  obtain ⟨x0, x1, x2⟩ := x
  obtain ⟨y0, y1, y2⟩ := y
  simp only [BK.cells] at *
  generalize hsx : strB x2 = sx at *
  generalize hsy : strB y2 = sy at *
  have HXV : Hid (∃ b, sx = .string b) := Lib.hid ⟨_, hsx.symm⟩
  have HYV : Hid (∃ b, sy = .string b) := Lib.hid ⟨_, hsy.symm⟩
  clear hsx hsy
  generalize cmpS x2 y2 = s at *
  have hH := ((Holds.nil_ W).alloc (.cells #[.bool x0, .bool x1, sx] 71)).alloc (.cells #[.bool y0, .bool y1, sy] 71)
  have hg : ∃ q os', (W.alloc (.cells #[.bool x0, .bool x1, sx] 71)).alloc (.cells #[.bool y0, .bool y1, sy] 71) = Go.Sort.grow (W.drewN q) os' := ⟨0, #[(.cells #[.bool x0, .bool x1, sx] 71), (.cells #[.bool y0, .bool y1, sy] 71)], by
    rw [Go.Sort.alloc_eq_grow, Go.Sort.alloc_eq_grow, Go.Sort.grow_grow]; rfl⟩
  rw [World.size_alloc] at hH
  go_enter Try.func66, Try.ntmps66
  go_wp2_with fail
  generalize (W.alloc (.cells #[.bool x0, .bool x1, sx] 71)).alloc (.cells #[.bool y0, .bool y1, sy] 71) = w0 at *
  generalize W.heap.size = g at *
  have HS : Hid (∀ wx : World, Holds wx [(g + 1, .cells #[.bool y0, .bool y1, sy] 71), (g, .cells #[.bool x0, .bool x1, sx] 71)] → wx.cell? ⟨g, 0, none⟩ = some (.bool x0) ∧ wx.cell? ⟨g, 1, none⟩ = some (.bool x1) ∧ wx.cell? ⟨g, 2, none⟩ = some sx ∧ wx.cell? ⟨g + 1, 0, none⟩ = some (.bool y0) ∧ wx.cell? ⟨g + 1, 1, none⟩ = some (.bool y1) ∧ wx.cell? ⟨g + 1, 2, none⟩ = some sy) := Lib.hid (fun wx h =>
    ⟨h.tail.hcell 0, h.tail.hcell 1, h.tail.hcell 2, h.hcell 0, h.hcell 1, h.hcell 2⟩)
  have HST : Hid (∀ (wx : World) (k : Nat), (∃ q os', wx = Go.Sort.grow (W.drewN q) os') → ∃ q os', wx.drewN k = Go.Sort.grow (W.drewN q) os') := Lib.hid (fun wx k h => by
    obtain ⟨q, os, rfl⟩ := h
    exact ⟨q + k, os, by rw [← World.drewN_drewN]; rfl⟩)
  have HSA : Hid (∀ (wx : World) (o : Obj), (∃ q os', wx = Go.Sort.grow (W.drewN q) os') → ∃ q os', wx.alloc o = Go.Sort.grow (W.drewN q) os') := Lib.hid (fun wx o h => by
    obtain ⟨q, os, rfl⟩ := h
    exact ⟨q, os.push o, growA _ _ _⟩)
  refine Z_begin (fun wx => wx.cell? ⟨g, 0, none⟩ = some (.bool x0) ∧ wx.cell? ⟨g, 1, none⟩ = some (.bool x1) ∧ wx.cell? ⟨g, 2, none⟩ = some sx ∧ wx.cell? ⟨g + 1, 0, none⟩ = some (.bool y0) ∧ wx.cell? ⟨g + 1, 1, none⟩ = some (.bool y1) ∧ wx.cell? ⟨g + 1, 2, none⟩ = some sy) 13 (by kernel_rfl) (fun w1 hd => HS.out _ (hH.dr hd)) (fun w1 hd hs => ?_)
  have hH1 := hH.dr hd; have hG1 : ∃ q os', w1 = Go.Sort.grow (W.drewN q) os' := (by obtain ⟨k, rfl⟩ := hd; exact HST.out _ k hg); clear hd hH hg
  refine Z_takeD 0 (some 5) (v := ?_) rfl rfl (by kernel_rfl) (fun _ _ _ h => h) (by rfl) hs ?_ ?_
  rotate_left
  · intro wx hx; obtain ⟨s1, s2, s3, s4, s5, s6⟩ := hx; go_simp; try with_reducible rfl
  simp only [Act.put, List.setIfInBounds_toArray, List.set_cons_succ, List.set_cons_zero]
  refine Z_takeD 2 (some 7) (v := ?_) rfl rfl (by kernel_rfl) (fun _ _ _ h => h) (by rfl) hs ?_ ?_
  rotate_left
  · intro wx hx; obtain ⟨s1, s2, s3, s4, s5, s6⟩ := hx; go_simp; try with_reducible rfl
  simp only [Act.put, List.setIfInBounds_toArray, List.set_cons_succ, List.set_cons_zero]
  refine Z_takeD 5 (some 10) (v := ?_) rfl rfl (by kernel_rfl) (fun _ _ _ h => h) (by rfl) hs ?_ ?_
  rotate_left
  · intro wx hx; obtain ⟨s1, s2, s3, s4, s5, s6⟩ := hx; go_simp; try with_reducible rfl
  simp only [Act.put, List.setIfInBounds_toArray, List.set_cons_succ, List.set_cons_zero]
  refine Z_takeD 6 (some 11) (v := ?_) rfl rfl (by kernel_rfl) (fun _ _ _ h => h) (by rfl) hs ?_ ?_
  rotate_left
  · intro wx hx; obtain ⟨s1, s2, s3, s4, s5, s6⟩ := hx; go_simp; try with_reducible rfl
  simp only [Act.put, List.setIfInBounds_toArray, List.set_cons_succ, List.set_cons_zero]
  refine Z_takeD 7 (some 12) (v := ?_) rfl rfl (by kernel_rfl) (fun _ _ _ h => h) (by rfl) hs ?_ ?_
  rotate_left
  · intro wx hx; obtain ⟨s1, s2, s3, s4, s5, s6⟩ := hx; go_simp; try with_reducible rfl
  simp only [Act.put, List.setIfInBounds_toArray, List.set_cons_succ, List.set_cons_zero]
  refine Z_takeD 8 (some 13) (v := ?_) rfl rfl (by kernel_rfl) (fun _ _ _ h => h) (by rfl) hs ?_ ?_
  rotate_left
  · intro wx hx; obtain ⟨s1, s2, s3, s4, s5, s6⟩ := hx; go_simp; try with_reducible rfl
  simp only [Act.put, List.setIfInBounds_toArray, List.set_cons_succ, List.set_cons_zero]
  refine Z_mid 1 rfl (by kernel_rfl) (fun K hK => ?_)
  have ⟨s1, s2, s3, s4, s5, s6⟩ := hs
  go_simp; refine (HRX.out w1).mono ?_; rintro e w2 ⟨rfl, rfl⟩; have hH2 := hH1.alloc' (.cells #[.bool x0, .bool x1, sx] 71); have hG2 := HSA.out _ (.cells #[.bool x0, .bool x1, sx] 71) hG1; generalize w1.alloc (.cells #[.bool x0, .bool x1, sx] 71) = w2 at *; clear hH1 hG1   -- call w
  clear s1 s2 s3 s4 s5 s6
  refine hK _ _ (HS.out _ hH2) (fun hs2 => ?_); clear hK K hs; have hs := hs2; clear hs2
  refine Z_mid 3 rfl (by kernel_rfl) (fun K hK => ?_)
  have ⟨s1, s2, s3, s4, s5, s6⟩ := hs
  go_simp; refine (HRY.out w2).mono ?_; rintro e w3 ⟨rfl, rfl⟩; have hH3 := hH2.alloc' (.cells #[.bool y0, .bool y1, sy] 71); have hG3 := HSA.out _ (.cells #[.bool y0, .bool y1, sy] 71) hG2; generalize w2.alloc (.cells #[.bool y0, .bool y1, sy] 71) = w3 at *; clear hH2 hG2   -- call w
  clear s1 s2 s3 s4 s5 s6
  refine hK _ _ (HS.out _ hH3) (fun hs2 => ?_); clear hK K hs; have hs := hs2; clear hs2
  refine Z_mid 4 rfl (by kernel_rfl) (fun K hK => ?_)
  have ⟨s1, s2, s3, s4, s5, s6⟩ := hs
  go_simp; refine (HCN.out w3).mono ?_; rintro e w4 ⟨rfl, rfl⟩   -- call w
  clear s1 s2 s3 s4 s5 s6
  refine hK _ _ (HS.out _ hH3) (fun hs2 => ?_); clear hK K hs; have hs := hs2; clear hs2
  refine Z_mid 9 rfl (by kernel_rfl) (fun K hK => ?_)
  have ⟨s1, s2, s3, s4, s5, s6⟩ := hs
  go_simp; refine (HCS.out w3).mono ?_; rintro e w4 ⟨rfl, rfl⟩   -- call w
  clear s1 s2 s3 s4 s5 s6
  refine hK _ _ (HS.out _ hH3) (fun hs2 => ?_); clear hK K hs; have hs := hs2; clear hs2
  refine Z_mid 10 rfl (by kernel_rfl) (fun K hK => ?_)
  have ⟨s1, s2, s3, s4, s5, s6⟩ := hs
  go_simp; have hO1 := (hH3.alloc (.cells #[.int .i64 (cmpN rx ry), .int .i64 s] 3)).hcell 0; have hO2 := (hH3.alloc (.cells #[.int .i64 (cmpN rx ry), .int .i64 s] 3)).hcell 1; have hH4 := hH3.alloc' (.cells #[.int .i64 (cmpN rx ry), .int .i64 s] 3); have hG4 := HSA.out _ (.cells #[.int .i64 (cmpN rx ry), .int .i64 s] 3) hG3   -- buildSlice w
  clear s1 s2 s3 s4 s5 s6
  refine hK _ _ (HS.out _ hH4) (fun hs2 => ?_); clear hK K hs; have hs := hs2; clear hs2
  refine Z_mid 11 rfl (by kernel_rfl) (fun K hK => ?_)
  have ⟨s1, s2, s3, s4, s5, s6⟩ := hs
  go_simp; refine (HOR.out _ _ hO1 hO2).mono ?_; rintro e w5 ⟨rfl, rfl⟩   -- call w
  clear s1 s2 s3 s4 s5 s6
  refine hK _ _ (HS.out _ hH4) (fun hs2 => ?_); clear hK K hs; have hs := hs2; clear hs2
  refine Z_takeD 12 (some 4) (v := ?_) rfl rfl (by kernel_rfl) (fun _ _ _ h => h) (by rfl) hs ?_ ?_
  rotate_left
  · intro wx hx; obtain ⟨s1, s2, s3, s4, s5, s6⟩ := hx; go_simp; try with_reducible rfl
  simp only [Act.put, List.setIfInBounds_toArray, List.set_cons_succ, List.set_cons_zero]
  refine Z_done (by kernel_rfl) ?_ _
  clear hs hO1 hO2 hH4 hH3
  go_wp2_with fail
  go_ret
  exact ⟨rfl, hG4⟩
end Go.Proofs.Ytinfbpldgobmfaa
namespace Go.Proofs.Ytinfbpldgobmfaa
open Go.RowKit
set_option linter.unusedSimpArgs false
set_option linter.unusedVariables false

/-- goes ahead -/
def bless (x y : BK) : Prop := rankB x < rankB y ∨ (rankB x = rankB y ∧ x.data < y.data)
instance (x y : BK) : Decidable (bless x y) := by unfold bless; infer_instance
theorem cmpS_lt (x y : List UInt8) : cmpS x y < 0 ↔ x < y := by
  unfold cmpS
  rw [Go.Proofs.bytesLess_eq]
  by_cases h : x < y
  · simp [h]
  · rw [if_neg (by simpa using h)]
    by_cases h2 : x = y <;> simp [h, h2]
theorem cmpN_neg {x y : Int} (h : x < y) : cmpN x y = -1 := by unfold cmpN; rw [if_pos h]
theorem cmpN_zero (x : Int) : cmpN x x = 0 := by unfold cmpN; simp
theorem cmpN_pos {x y : Int} (h : y < x) : cmpN x y = 1 := by unfold cmpN; rw [if_neg (by omega), if_pos h]
theorem cmpB_lt (x y : BK) : cmpB x y < 0 ↔ bless x y := by
  unfold cmpB bless orI
  rcases Int.lt_trichotomy (rankB x) (rankB y) with h | h | h
  · rw [cmpN_neg h]; simp [h]
  · rw [h, cmpN_zero]; simp [cmpS_lt]
  · rw [cmpN_pos h]; simp; omega
theorem ltB (x y : BK) : ltOf cmpB x y = decide (bless x y) := by
  unfold ltOf
  exact decide_eq_decide.2 (cmpB_lt x y)
theorem bless_irrefl (x : BK) : ¬ bless x x := by
  rintro (h | ⟨_, h⟩)
  · omega
  · exact List.lt_irrefl _ h
theorem bless_trans {x y z : BK} (h1 : bless x y) (h2 : bless y z) : bless x z := by
  rcases h1 with h1 | ⟨h1, k1⟩ <;> rcases h2 with h2 | ⟨h2, k2⟩
  · exact .inl (by omega)
  · exact .inl (by omega)
  · exact .inl (by omega)
  · exact .inr ⟨by omega, List.lt_trans k1 k2⟩
theorem bless_ntrans {x y z : BK} (h1 : ¬ bless x y) (h2 : ¬ bless y z) : ¬ bless x z := by
  rintro (h | ⟨h, k⟩)
  · unfold bless at h1 h2
    have a1 : ¬ rankB x < rankB y := fun h => h1 (.inl h)
    have a2 : ¬ rankB y < rankB z := fun h => h2 (.inl h)
    omega
  · unfold bless at h1 h2
    have a1 : ¬ rankB x < rankB y := fun h => h1 (.inl h)
    have a2 : ¬ rankB y < rankB z := fun h => h2 (.inl h)
    have e1 : rankB x = rankB y := by omega
    have e2 : rankB y = rankB z := by omega
    have b1 : ¬ x.data < y.data := fun h => h1 (.inr ⟨e1, h⟩)
    have b2 : ¬ y.data < z.data := fun h => h2 (.inr ⟨e2, h⟩)
    rw [List.not_lt] at b1 b2
    exact absurd k (List.not_lt.2 (List.le_trans b2 b1))
/-- a block that may be: what is none has nothing else -/
def BK.Ok (x : BK) : Prop := x.some = false → x = BK.none
theorem bless_total {x y : BK} (hx : x.Ok) (hy : y.Ok) (h1 : ¬ bless x y) (h2 : ¬ bless y x) : x = y := by
  unfold bless at h1 h2
  have er : rankB x = rankB y := by
    have a1 : ¬ rankB x < rankB y := fun h => h1 (.inl h)
    have a2 : ¬ rankB y < rankB x := fun h => h2 (.inl h)
    omega
  have b1 : ¬ x.data < y.data := fun h => h1 (.inr ⟨er, h⟩)
  have b2 : ¬ y.data < x.data := fun h => h2 (.inr ⟨er.symm, h⟩)
  rw [List.not_lt] at b1 b2
  have hd : x.data = y.data := List.le_antisymm b2 b1
  obtain ⟨x0, x1, x2⟩ := x
  obtain ⟨y0, y1, y2⟩ := y
  unfold BK.Ok at hx hy
  simp only at hd hx hy
  subst hd
  cases x0 <;> cases y0 <;> cases x1 <;> cases y1 <;> simp_all [rankB, BK.none]
theorem swoBk : Go.Sort.SWO (ltOf cmpB) where
  irrefl x := by rw [ltB]; exact decide_eq_false (bless_irrefl x)
  trans x y z h1 h2 := by rw [ltB] at *; exact decide_eq_true (bless_trans (of_decide_eq_true h1) (of_decide_eq_true h2))
  ntrans x y z h1 h2 := by rw [ltB] at *; exact decide_eq_false (bless_ntrans (of_decide_eq_false h1) (of_decide_eq_false h2))

/-- none goes ahead of one before it -/
abbrev BAsc (l : List BK) : Prop := l.Pairwise fun x y => ¬ bless y x
/-- each goes ahead of all behind it -/
abbrev BInc (l : List BK) : Prop := l.Pairwise bless
theorem binc_ext {a b : List BK} (ha : BInc a) (hb : BInc b) (h : ∀ e, e ∈ a ↔ e ∈ b) : a = b := by
  induction a generalizing b with
  | nil =>
    cases b with
    | nil => rfl
    | cons y ys => exact absurd ((h y).2 (by simp)) (by simp)
  | cons x xs ih =>
    cases b with
    | nil => exact absurd ((h x).1 (by simp)) (by simp)
    | cons y ys =>
      obtain ⟨ha1, ha2⟩ := List.pairwise_cons.1 ha
      obtain ⟨hb1, hb2⟩ := List.pairwise_cons.1 hb
      have hxy : x = y := by
        rcases List.mem_cons.1 ((h x).1 (by simp)) with h1 | h1
        · exact h1
        · rcases List.mem_cons.1 ((h y).2 (by simp)) with h2 | h2
          · exact h2.symm
          · exact absurd (bless_trans (hb1 x h1) (ha1 y h2)) (bless_irrefl y)
      subst hxy
      congr 1
      refine ih ha2 hb2 fun e => ⟨fun he => ?_, fun he => ?_⟩
      · rcases List.mem_cons.1 ((h e).1 (List.mem_cons_of_mem _ he)) with rfl | h1
        · exact absurd (ha1 e he) (bless_irrefl e)
        · exact h1
      · rcases List.mem_cons.1 ((h e).2 (List.mem_cons_of_mem _ he)) with rfl | h1
        · exact absurd (hb1 e he) (bless_irrefl e)
        · exact h1

set_option maxRecDepth 20000 in
theorem idsort_any (v : Value) (es : List BK) (H Fr : HL) (w : World) (hv : IsBks v es H) (hH : Holds w (H ++ Fr)) (hsm : es.length ≤ 1000000) :
    Calls Try.prog 65 #[v, .func (.func 66) #[] #[]] w (RetUpd (fun H' => ∃ es' : List BK, es'.Perm es ∧ BAsc es' ∧ IsBks v es' H') (.tuple #[]) w Fr) := by
  unfold IsBks at hv
  rcases hv with ⟨hl, ⟨rfl, h0, rfl⟩ | ⟨g, cap, cur, fz, rfl, hn, hc, hs, ht, hf, rfl⟩⟩
  · obtain rfl : es = [] := List.length_eq_zero_iff.1 h0
    refine Calls.mono (AnyF.slices_SortFunc_none layIdSort none 0 (.func (.func 66) #[] #[]) w) ?_
    rintro e w' ⟨rfl, rfl⟩
    exact ⟨rfl, [], ⟨[], List.Perm.nil, List.Pairwise.nil, IsBks.nil⟩, hH, Grew.refl _⟩
  · have eg : ∀ args w, (callFunc 66 args).run Try.prog w = .ok (.enter 66 args) w := enters_of Try.func66 (by kernel_rfl) rfl
    have hfl := flatK_bkC es
    have hHK : Go.Sort.HoldsK BK.cells 3 w g 0 es.toArray := by
      unfold Go.Sort.HoldsK
      rw [hfl]
      intro j hj
      have hj' : j < (bkC es).length := by simpa using hj
      refine ⟨?_, ?_⟩
      · rw [Nat.zero_add, hH.cell (t := 71) (cs := cur) (fz := fz) (by simp)]
        have h1 : (cur.toList.take (es.length * 3))[j]? = (bkC es)[j]? := by rw [ht]
        rw [List.getElem?_take, if_pos (by rw [bkC_len] at hj'; exact hj')] at h1
        rw [← Array.getElem?_toList, h1, List.getElem?_eq_getElem hj', getElem!_pos _ j hj]
        rfl
      · rw [Nat.zero_add]
        exact frozen_of_block (t := 71) (cs := cur) (fz := fz) (hH.get (by simp)) hf (by rw [bkC_len] at hj'; omega)
    have hcon := AnyQ.slices_SortFunc layIdSort 3 Try.isAgg71 Try.sizeOf71 BK.cells (fun _ => rfl) (fun x v hv => by simp [BK.cells, strB] at hv; rcases hv with rfl | rfl | rfl <;> rfl) cmpB swoBk 66 #[] g 0 cap es.toArray w eg
      (fun _ _ _ _ x y => idless_any x y _) hHK (hH.lt (p := (g, .cells cur 71 fz)) (by simp)) (by simp; omega)
    refine Calls.mono hcon ?_
    rintro e w' ⟨rfl, d', n, os, hp, hso, rfl⟩
    unfold sortWorldK Go.Sort.putRowK
    have hds : d'.size = es.length := by have := hp.1; simpa using this
    have hperm : d'.toList.Perm es := by
      have h := hp.2.2
      simp only [List.size_toArray] at h
      rw [← hds] at h
      have h' : d'.toList.Perm (es.take d'.size) := by simpa using h
      rwa [hds, List.take_of_length_le (Nat.le_refl _)] at h'
    have hsrt : BAsc d'.toList := by
      refine List.pairwise_iff_getElem.2 fun i j hi hj hij => ?_
      have h := hso i j (Nat.zero_le _) hij (by simpa [hds] using hj)
      rw [ltB] at h
      have h2 := of_decide_eq_false h
      rw [getElem!_pos d' i (by simpa using hi), getElem!_pos d' j (by simpa using hj)] at h2
      simpa only [Array.getElem_toList] using h2
    have hfd : Go.Sort.flatK BK.cells 3 d' = (bkC d'.toList).toArray := by have := flatK_bkC d'.toList; simpa using this
    rw [hfd]
    obtain ⟨h1, h2⟩ := putRow_rowB id (g := g) (cur := cur) (t := 71) (fz := fz) (H := Fr) n os (bkC d'.toList).toArray (by simpa using hH)
    refine ⟨rfl, [(g, .cells (Go.Sort.putCells id 0 (bkC d'.toList).toArray cur) 71 fz)], ⟨d'.toList, hperm, hsrt, ?_⟩, h1, h2⟩
    have hl2 : (bkC d'.toList).length = es.length * 3 := by rw [bkC_len]; simp [hds]
    have e1 := putCells_takeB id (bkC d'.toList) cur (by rw [hl2]; omega)
    rw [hl2] at e1
    have hl3 : d'.toList.length = es.length := by simpa using hds
    exact ⟨by rw [bkC_len], .inr ⟨g, cap, _, fz, by rw [hl3], by rw [hl3]; exact hn, hc, by rw [putCells_sizeB]; omega, by rw [hl3, e1, List.map_id], by rw [putCells_sizeB]; exact hf, rfl⟩⟩
end Go.Proofs.Ytinfbpldgobmfaa
namespace Go.Proofs.Ytinfbpldgobmfaa
def layIdIdxF_ren : Go.Shelf.Ren := ⟨fun | 6 => 57 | n => n, fun | 22 => 66 | 23 => 71 | 25 => 72 | 3 => 3 | 0 => 0 | 4 => 4 | n => n, fun | n => n⟩
theorem layIdIdxF : Go.Proofs.SlLaysH0.n6 Try.prog layIdIdxF_ren where
  mixed := by kernel_rfl
  f6 := ⟨ "slices.IndexFunc[[]scullery/ideal.block,scullery/ideal.block]", by decide, Try.func57.trans (congrArg some (by kernel_rfl))⟩
  t0 := Try.underlying0
  a0 := Try.isAgg0
  z0 := Try.sizeOf0
  v0 := Try.zeroValue0
  t3 := Try.underlying3
  a3 := Try.isAgg3
  z3 := Try.sizeOf3
  v3 := Try.zeroValue3
  t4 := Try.underlying4
  a4 := Try.isAgg4
  z4 := Try.sizeOf4
  v4 := Try.zeroValue4
  t22 := Try.underlying66
  a22 := Try.isAgg66
  z22 := Try.sizeOf66
  v22 := Try.zeroValue66
  t25 := Try.underlying72
  a25 := Try.isAgg72
  z25 := Try.sizeOf72
  v25 := Try.zeroValue72
def layIdHasF_ren : Go.Shelf.Ren := ⟨fun | 8 => 39 | 6 => 57 | n => n, fun | 22 => 66 | 23 => 71 | 25 => 72 | 4 => 4 | 3 => 3 | 0 => 0 | n => n, fun | n => n⟩
theorem layIdHasF : Go.Proofs.SlLaysH0.n8 Try.prog layIdHasF_ren where
  mixed := by kernel_rfl
  f6 := ⟨ "slices.IndexFunc[[]scullery/ideal.block,scullery/ideal.block]", by decide, Try.func57.trans (congrArg some (by kernel_rfl))⟩
  f8 := ⟨ "slices.ContainsFunc[[]scullery/ideal.block,scullery/ideal.block]", by decide, Try.func39.trans (congrArg some (by kernel_rfl))⟩
  t0 := Try.underlying0
  a0 := Try.isAgg0
  z0 := Try.sizeOf0
  v0 := Try.zeroValue0
  t3 := Try.underlying3
  a3 := Try.isAgg3
  z3 := Try.sizeOf3
  v3 := Try.zeroValue3
  t4 := Try.underlying4
  a4 := Try.isAgg4
  z4 := Try.sizeOf4
  v4 := Try.zeroValue4
  t22 := Try.underlying66
  a22 := Try.isAgg66
  z22 := Try.sizeOf66
  v22 := Try.zeroValue66
  t25 := Try.underlying72
  a25 := Try.isAgg72
  z25 := Try.sizeOf72
  v25 := Try.zeroValue72
def layIdHas_ren : Go.Shelf.Ren := ⟨fun | 7 => 51 | 6 => 72 | n => n, fun | 22 => 66 | 24 => 71 | 4 => 4 | 0 => 0 | 3 => 3 | n => n, fun | n => n⟩
theorem layIdHas : Go.Proofs.SlLaysQ.n7 Try.prog layIdHas_ren where
  mixed := by kernel_rfl
  f6 := ⟨ "slices.Index[[]scullery/ideal.block,scullery/ideal.block]", by decide, Try.func72.trans (congrArg some (by kernel_rfl))⟩
  f7 := ⟨ "slices.Contains[[]scullery/ideal.block,scullery/ideal.block]", by decide, Try.func51.trans (congrArg some (by kernel_rfl))⟩
  t0 := Try.underlying0
  a0 := Try.isAgg0
  z0 := Try.sizeOf0
  v0 := Try.zeroValue0
  t3 := Try.underlying3
  a3 := Try.isAgg3
  z3 := Try.sizeOf3
  v3 := Try.zeroValue3
  t4 := Try.underlying4
  a4 := Try.isAgg4
  z4 := Try.sizeOf4
  v4 := Try.zeroValue4
  t22 := Try.underlying66
  a22 := Try.isAgg66
  z22 := Try.sizeOf66
  v22 := Try.zeroValue66
open Go.RowKit
set_option linter.unusedSimpArgs false
set_option linter.unusedVariables false

theorem bk_eql (x y : BK) (w : World) : (binOp .eql 71 (.agg x.cells.toArray) (.agg y.cells.toArray)).run Try.prog w = .ok (.bool (x == y)) w := by
  obtain ⟨x0, x1, x2⟩ := x
  obtain ⟨y0, y1, y2⟩ := y
  have h : ((⟨x0, x1, x2⟩ : BK) == ⟨y0, y1, y2⟩) = decide (x0 = y0 ∧ x1 = y1 ∧ x2 = y2) := by
    rw [show ((⟨x0, x1, x2⟩ : BK) == ⟨y0, y1, y2⟩) = decide ((⟨x0, x1, x2⟩ : BK) = ⟨y0, y1, y2⟩) from rfl]
    exact decide_eq_decide.2 (by simp)
  rw [h]
  simp only [BK.cells, strB]
  go_simp
  by_cases e0 : x0 = y0 <;> by_cases e1 : x1 = y1 <;> by_cases e2 : x2 = y2 <;> simp [e0, e1, e2]
theorem bkEqlAt : EqlAt Try.prog 71 (fun x : BK => .agg x.cells.toArray) (fun x y => x == y) := ⟨bk_eql, GuardAt.agg _ (by kernel_rfl)⟩

def BIdxTo (w : World) (v : Value) (wr : World) : Prop := v = .int .i64 0 ∧ wr = w
theorem bidxNone_any (A : Option Addr) (c : Nat) (fv : Value) (w : World) : Calls Try.prog 57 #[.slice A 0 c, fv] w fun e w' => e = .returned (.int .i64 (-1)) ∧ w' = w := by
  go_enter Try.func57, Try.ntmps57
  go_wp2_with fail
  go_loopw [8] (fun v wr => BIdxTo w v wr) (fun _ _ => 0)
  case atStart => exact ⟨rfl, rfl⟩
  case round =>
    obtain ⟨rfl, rfl⟩ := hrel
    go_wp2_with fail
    go_ret
    exact ⟨rfl, rfl⟩
theorem bk_row {w : World} {b o : Nat} {es : List BK} (h : ∀ i (hi : i < es.length), BkCells w b (o + i * 3) es[i]) : ∀ j, j < es.length → ∀ i v, (BK.cells es[j]!)[i]? = some v → w.cell? ⟨b, o + j * 3 + i, none⟩ = some v := by
  intro j hj i v hv
  obtain ⟨e1, e2, e3⟩ := h j hj
  have hx : es[j]! = es[j] := getElem!_pos es j hj
  rw [hx] at hv
  match i, hv with
  | 0, hv => simp only [BK.cells, List.getElem?_cons_zero, Option.some.injEq] at hv; subst hv; exact e1
  | 1, hv => simp only [BK.cells, List.getElem?_cons_succ, List.getElem?_cons_zero, Option.some.injEq] at hv; subst hv; exact e2
  | 2, hv => simp only [BK.cells, List.getElem?_cons_succ, List.getElem?_cons_zero, Option.some.injEq] at hv; subst hv; exact e3
  | k + 3, hv => simp [BK.cells] at hv
theorem Holds.belowSize {w w' : World} {H : HL} (h : Holds w H) (hb : Below w.heap.size w w') : Holds w' H ∧ Grew w w' := ⟨h.below hb (fun p hp => h.lt hp), ⟨hb.os, hb.tape, hb.output, hb.size⟩⟩
/-- is one of them such that ..? -/
theorem idhasF_any (F : FuncId) (lb : Array Value) (p : BK → Bool) (eg : ∀ args w, (callFunc F args).run Try.prog w = .ok (.enter F args) w) (v : Value) (es : List BK) (w : World) (Fr : HL)
    (hp : PredBelow Try.prog F lb (fun x : BK => .agg x.cells.toArray) p w) (hv : BksAt w v es) (hH : Holds w Fr) :
    Calls Try.prog 39 #[v, .func (.func F) #[] lb] w (RetFr (.bool (es.any p)) w Fr) := by
  obtain ⟨A, c, rfl, hc1, hc2, hcl⟩ := hv.cells
  rcases Nat.eq_zero_or_pos es.length with h0 | h0
  · obtain rfl : es = [] := List.length_eq_zero_iff.1 h0
    have HN := Lib.hid (bidxNone_any A c (.func (.func F) #[] lb) w)
    clear hcl hp hv
    go_enter Try.func39, Try.ntmps39
    go_wp2_with fail
    refine HN.out.mono ?_
    rintro e w' ⟨rfl, rfl⟩
    go_wp2_with fail
    go_ret
    exact ⟨rfl, hH, Grew.refl _⟩
  · obtain ⟨b, o, rfl, hce⟩ := hcl h0
    have hcb := hce 0 h0
    rw [Nat.zero_mul, Nat.add_zero] at hcb
    have hbl : b < w.heap.size := World.block_lt_of_cell? w _ hcb.1
    unfold maxLen at hc2
    have hcon := AnyQ.slices_ContainsFunc layIdHasF 3 Try.isAgg71 Try.sizeOf71 BK.cells (fun _ => rfl) p F lb eg b o es.length c es w hp (Nat.le_refl _) (by omega) hbl (bk_row hce)
    rw [List.take_length] at hcon
    refine Calls.mono hcon ?_
    rintro e w' ⟨rfl, hb⟩
    exact ⟨rfl, hH.belowSize hb⟩
/-- is it among them? -/
theorem idhas_any (v : Value) (es : List BK) (x : BK) (w : World) (Fr : HL) (hv : BksAt w v es) (hH : Holds w Fr) (hsm : es.length ≤ 1000000) :
    Calls Try.prog 51 #[v, .agg x.cells.toArray] w (RetFr (.bool (es.any fun y => x == y)) w Fr) := by
  obtain ⟨A, c, rfl, hc1, hc2, hcl⟩ := hv.cells
  rcases Nat.eq_zero_or_pos es.length with h0 | h0
  · obtain rfl : es = [] := List.length_eq_zero_iff.1 h0
    obtain ⟨x0, x1, x2⟩ := x
    clear hcl hv hsm
    simp only [BK.cells, strB]
    have HI : Hid (∀ w, Calls Try.prog 72 #[.slice A 0 c, .agg #[.bool x0, .bool x1, .string ⟨x2.toArray⟩]] w fun e w' => e = .returned (.int .i64 (-1)) ∧ w' = w.alloc (.cells #[.bool x0, .bool x1, .string ⟨x2.toArray⟩] 71)) := Lib.hid (by
      intro w
      go_enter Try.func72, Try.ntmps72
      go_wp2_with fail
      go_loopw [8] (fun v wr => BIdxTo (w.alloc (.cells #[.bool x0, .bool x1, .string ⟨x2.toArray⟩] 71)) v wr) (fun _ _ => 0)
      case atStart => exact ⟨rfl, rfl⟩
      case round =>
        obtain ⟨rfl, rfl⟩ := hrel
        go_wp2_with fail
        go_ret
        exact ⟨rfl, rfl⟩)
    go_enter Try.func51, Try.ntmps51
    go_wp2_with fail
    refine (HI.out _).mono ?_
    rintro e w' ⟨rfl, rfl⟩
    go_wp2_with fail
    go_ret
    exact ⟨rfl, (hH.alloc' _).alloc' _, ((Grew.refl _).alloc _).alloc _⟩
  · obtain ⟨b, o, rfl, hce⟩ := hcl h0
    have hcon := AnyQ.slices_Contains layIdHas 3 Try.isAgg71 Try.sizeOf71 BK.cells (fun _ => rfl) (fun x y => x == y) bkEqlAt b o es.length c es x w (Nat.le_refl _) (by omega) (bk_row hce)
    rw [List.take_length] at hcon
    refine Calls.mono hcon ?_
    rintro e w' ⟨rfl, hb⟩
    exact ⟨rfl, hH.belowSize hb⟩

set_option maxHeartbeats 400000 in
theorem idclone_any (v : Value) (bs : List BK) (w : World) (Fr : HL) (hb : BksAt w v bs) (hH : Holds w Fr) (hsm : bs.length ≤ 1000000) :
    Calls Try.prog 41 #[v] w (RetNew (fun v H => IsBks v bs H) w Fr) := by
  have h1 : ∀ y ∈ bkC bs, y.oneCell' = true := bkC_one
  obtain ⟨A, c, rfl⟩ := (show ∃ A c, v = .slice A bs.length c from by obtain ⟨_, A, c, hv, _⟩ := hb; exact ⟨A, c, hv⟩)
  have HB := Lib.hid hb
  have H1 := Lib.hid h1; clear h1
  cases A with
  | none =>
    obtain ⟨_, A, c', hv, hc1, hc2, h0⟩ := hb
    injection hv with hv1 hv2 hv3
    subst hv1 hv3
    have hz : bs.length = 0 := by
      rcases Nat.eq_zero_or_pos bs.length with h | h
      · exact h
      · obtain ⟨b, o, h, _⟩ := h0 h; cases h
    obtain rfl : bs = [] := List.eq_nil_of_length_eq_zero hz
    have k1 : ∀ w : World, (binOp .eql 66 (.slice none 0 c) (.slice none 0 0)).run Try.prog w = .ok (.bool true) w := fun w => Lib.run_eql_slice_nil w _ _ _ _ _ _ _ tBlks.under
    clear h0 hz hc1
    go_enter Try.func41, Try.ntmps41
    go_wp2
    go_ret
    exact ⟨_, [], rfl, IsBks.nil, hH, Grew.refl w⟩
  | some a =>
    have k1 : ∀ w : World, (binOp .eql 66 (.slice (some a) bs.length c) (.slice none 0 0)).run Try.prog w = .ok (.bool false) w := fun w => Lib.run_eql_slice_nil w _ _ _ _ _ _ _ tBlks.under
    clear hb
    go_enter Try.func41, Try.ntmps41
    go_wp2_with (at_builtin; refine wpList_append_T tBlks (by rfl) (.tmp 5) (.tmp 6) (by rfl) (by rfl) (by rfl) (IsRow.made0 (size := 3) (e := 71) w.heap.size 0 #[] (by rfl) (by simp [maxLen])) ((hH.alloc (.cells #[] 71))) (HB.out.alloc _) H1.out (by simp [maxLen]; omega) (by omega) ?_; intro A' c' w' H' hrow hH3 hg2)
    go_ret
    simp only [Nat.zero_add, List.nil_append] at hrow
    exact ⟨_, H', rfl, hrow, hH3, ((Grew.refl w).alloc _).trans hg2⟩
end Go.Proofs.Ytinfbpldgobmfaa
namespace Go.Proofs.Ytinfbpldgobmfaa
open Go.RowKit
set_option linter.unusedSimpArgs false
set_option linter.unusedVariables false

theorem zeroCells_memB {zs : Array Value} {n : Nat} (hp : 0 < zs.size) {x : Value} (hx : x ∈ (Builtin.zeroCells zs n).toList) : x ∈ zs.toList := by
  unfold Builtin.zeroCells at hx
  simp only [Array.toList_map, List.mem_map] at hx
  obtain ⟨i, _, rfl⟩ := hx
  rw [getElem!_pos zs (i % zs.size) (Nat.mod_lt _ hp)]
  exact Array.getElem_mem_toList _
theorem run_clearB {P : Program} {t e : TypeId} {size bytes : Nat} {z : Value} (hT : SlT P t e size bytes z) (h1 : ∀ x ∈ z.cells.toList, x.oneCell' = true) {w : World} {g : Nat} {cur : Array Value} {fz : Nat × Nat} {Fr : HL} (hH : Holds w ((g, .cells cur e fz) :: Fr)) (hf : okfz fz cur.size)
    (o n c : Nat) (hn : 0 < n) (hfit : (o + n) * size ≤ cur.size) : ∃ cs' : Array Value, cs'.size = cur.size ∧ cs'.toList.take (o * size) = cur.toList.take (o * size) ∧ Holds (w.setRow g cs') ((g, .cells cs' e fz) :: Fr) ∧
      ∀ ty, (Builtin.clear_ #[t] ty #[.slice (some ⟨g, o * size, none⟩) n c]).run P w = .ok (.tuple #[]) (w.setRow g cs') := by
  obtain ⟨i, hi, hz, hsz, _⟩ := hT.info
  have hzs : (Builtin.zeroCells z.cells n).toList.length = n * size := by unfold Builtin.zeroCells; simp [hT.cells]
  have hfit2 : o * size + 0 + (Builtin.zeroCells z.cells n).toList.length ≤ cur.size := by rw [hzs, Nat.add_zero, ← Nat.add_mul]; exact hfit
  have hst := storeCells_fz (P := P) g (o * size) e fz (Builtin.zeroCells z.cells n).toList 0 cur w (hH.get (by simp)) hf hfit2
    (fun x hx => h1 x (zeroCells_memB (by rw [hT.cells]; exact hT.pos) hx))
  rw [Nat.add_zero] at hfit2
  simp only [Nat.add_zero] at hst
  generalize hZ : (Builtin.zeroCells z.cells n).toList = ZS at *
  obtain ⟨cs', hcs⟩ : ∃ cs', cs' = (cur.toList.take (o * size) ++ ZS ++ cur.toList.drop (o * size + ZS.length)).toArray := ⟨_, rfl⟩
  rw [← hcs] at hst
  refine ⟨cs', ?_, ?_, Holds.setRow' hH _, fun ty => ?_⟩
  · subst hcs; simp only [List.size_toArray, List.length_append, List.length_take, List.length_drop, Array.length_toList]; omega
  · subst hcs
    show ((cur.toList.take (o * size) ++ ZS) ++ cur.toList.drop (o * size + ZS.length)).take (o * size) = _
    rw [List.append_assoc, List.take_append_of_le_length (by simp; omega), List.take_take, Nat.min_self]
  · obtain ⟨m, rfl⟩ : ∃ m, n = m + 1 := ⟨n - 1, by omega⟩
    simp [Builtin.clear_, run_underlying hT.under, zeroValue, typeInfo, hi, hz, hZ, hst]
theorem bkC_take : ∀ (es : List BK) (k : Nat), bkC (es.take k) = (bkC es).take (k * 3) := by
  intro es
  induction es with
  | nil => intro k; simp [bkC]
  | cons e es ih =>
    intro k
    match k with
    | 0 => simp [bkC]
    | k + 1 =>
      have := ih k
      unfold bkC at *
      rw [show (k + 1) * 3 = k * 3 + 1 + 1 + 1 by omega]
      simp [BK.cells, this]
def setBk (w : World) (g o : Nat) (x : BK) : World := ((w.setCell ⟨g, o, none⟩ (.bool x.some)).setCell ⟨g, o + 1, none⟩ (.bool x.dirty)).setCell ⟨g, o + 2, none⟩ (strB x.data)
/-- an own slice of blocks: read, stored into, cut short -/
theorem IsBks.own {v : Value} {es : List BK} {H : HL} (h : IsBks v es H) (h0 : 0 < es.length) : ∃ g cap, v = .slice (some ⟨g, 0, none⟩) es.length cap ∧ es.length ≤ cap ∧ cap ≤ maxLen ∧
    (∀ (wx : World) (F : HL), Holds wx (H ++ F) → (∀ i (hi : i < es.length), BkCells wx g (i * 3) es[i]) ∧ ∀ j, j < es.length * 3 → wx.frozen? ⟨g, j, none⟩ = false) ∧
    (∀ (wx : World) (F : HL), Holds wx (H ++ F) → ∀ j, j < es.length → ∀ x : BK, ∃ H', IsBks v (es.set j x) H' ∧ Holds (setBk wx g (j * 3) x) (H' ++ F)) ∧
    (∀ (wx : World) (F : HL), Holds wx (H ++ F) → ∀ k, k < es.length → ∃ (wy : World) (H' : HL), (∀ ty, (Builtin.clear_ #[66] ty #[.slice (some ⟨g, k * 3, none⟩) (es.length - k) (cap - k)]).run Try.prog wx = .ok (.tuple #[]) wy) ∧ IsBks (.slice (some ⟨g, 0, none⟩) k cap) (es.take k) H' ∧ Holds wy (H' ++ F) ∧ Grew wx wy) := by
  obtain ⟨hl, ⟨_, hz, _⟩ | ⟨g, cap, cur, fz, rfl, hn, hc, hcz, ht, hf, rfl⟩⟩ := h
  · omega
  · have hcell : ∀ (wx : World) (F : HL), Holds wx ([(g, Obj.cells cur 71 fz)] ++ F) → ∀ i (hi : i < es.length), BkCells wx g (i * 3) es[i] := by
      intro wx F hx i hi
      have hg : wx.heap[g]? = some (.cells cur 71 fz) := hx.get (by simp)
      have hce : ∀ q u, (bkC es)[i * 3 + q]? = some u → q < 3 → wx.cell? ⟨g, i * 3 + q, none⟩ = some u := fun q u hu hq => by
        rw [cell_of_row wx g (i * 3 + q) cur 71 fz hg]
        rw [← ht, List.getElem?_take, if_pos (by omega)] at hu
        simpa using hu
      obtain ⟨e1, e2, e3⟩ := bkC_get es i hi
      exact ⟨hce 0 _ e1 (by omega), hce 1 _ e2 (by omega), hce 2 _ e3 (by omega)⟩
    refine ⟨g, cap, rfl, hn, hc, fun wx F hx => ⟨hcell wx F hx, fun j hj => frozen_of_block (t := 71) (cs := cur) (fz := fz) (hx.get (by simp)) hf (by omega)⟩, fun wx F hx j hj x => ?_, fun wx F hx k hk => ?_⟩
    · have k1 := Holds.set' (H := F) (by simpa using hx) (j * 3) (.bool x.some)
      have k2 := Holds.set' k1 (j * 3 + 1) (.bool x.dirty)
      have k3 := Holds.set' k2 (j * 3 + 2) (strB x.data)
      refine ⟨_, ⟨by rw [bkC_len], .inr ⟨g, cap, _, fz, by rw [List.length_set], by rw [List.length_set]; exact hn, hc, by simpa using hcz, ?_, by simpa using hf, rfl⟩⟩, k3⟩
      rw [List.length_set]
      simp only [Array.toList_setIfInBounds, List.take_set, ht]
      have hset : ∀ (es : List BK) (j : Nat), j < es.length → (((bkC es).set (j * 3) (.bool x.some)).set (j * 3 + 1) (.bool x.dirty)).set (j * 3 + 2) (strB x.data) = bkC (es.set j x) := by
        intro es
        induction es with
        | nil => intro j hj; simp at hj
        | cons r rs ih =>
          intro j hj
          match j with
          | 0 => simp [bkC, BK.cells]
          | j + 1 =>
            have := ih j (by simpa using hj)
            unfold bkC at *
            rw [show (j + 1) * 3 = j * 3 + 1 + 1 + 1 by omega]
            simp only [List.flatMap_cons, BK.cells, List.cons_append, List.nil_append, List.set_cons_succ, show j * 3 + 1 + 1 + 1 + 1 = (j * 3 + 1) + 1 + 1 + 1 by omega, show j * 3 + 1 + 1 + 1 + 2 = (j * 3 + 2) + 1 + 1 + 1 by omega, this]
      exact hset es j hj
    · obtain ⟨cs', h1, h2, h3, h4⟩ := run_clearB tBlks (by simp [Value.cells, Value.oneCell']) (Fr := F) (by simpa using hx) hf k (es.length - k) (cap - k) (by omega) (by rw [Nat.add_sub_cancel' (Nat.le_of_lt hk)]; exact Nat.le_trans (Nat.mul_le_mul_right 3 hn) hcz)
      have htk : (es.take k).length = k := by rw [List.length_take]; omega
      refine ⟨_, [(g, .cells cs' 71 fz)], h4, ⟨by rw [bkC_len], .inr ⟨g, cap, cs', fz, by rw [htk], by rw [htk]; omega, hc, by rw [h1]; exact hcz, ?_, by rw [h1]; exact hf, rfl⟩⟩, by simpa using h3, (Grew.refl wx).setRow g cs'⟩
      rw [htk, h2, bkC_take, ← ht, List.take_take, Nat.min_eq_left (by omega)]

theorem slice_inj {g g' n n' c c' : Nat} (h : Value.slice (some ⟨g, 0, none⟩) n c = .slice (some ⟨g', 0, none⟩) n' c') : g = g' ∧ c = c' := by
  injection h with h1 _ h3
  injection h1 with h1
  injection h1 with h1
  exact ⟨h1, h3⟩

/-! ### Compact -/
def compB : List BK → List BK
  | [] => []
  | [x] => [x]
  | x :: y :: r => if x = y then compB (y :: r) else x :: compB (y :: r)
theorem compB_snoc (l : List BK) (z x : BK) : compB (l ++ [z] ++ [x]) = if z = x then compB (l ++ [z]) else compB (l ++ [z]) ++ [x] := by
  induction l with
  | nil => by_cases h : z = x <;> simp [compB, h]
  | cons a l ih =>
    cases l with
    | nil =>
      simp only [List.nil_append, List.cons_append] at *
      by_cases h1 : a = z <;> by_cases h2 : z = x <;> simp [compB, h1, h2] at *
    | cons b l =>
      simp only [List.cons_append] at *
      by_cases h1 : a = b
      · simp only [compB, h1, if_true]; exact ih
      · simp only [compB, h1, if_false]
        rw [ih]
        split <;> rfl
theorem compB_take {es : List BK} {k : Nat} (hk : k + 1 < es.length) : compB (es.take (k + 2)) = if es[k] = es[k + 1] then compB (es.take (k + 1)) else compB (es.take (k + 1)) ++ [es[k + 1]] := by
  have e1 : es.take (k + 1) = es.take k ++ [es[k]] := List.take_succ_eq_append_getElem (by omega)
  have e2 : es.take (k + 2) = es.take (k + 1) ++ [es[k + 1]] := List.take_succ_eq_append_getElem hk
  rw [e2, e1, compB_snoc]
theorem compB_mem {l : List BK} {x : BK} : x ∈ compB l ↔ x ∈ l := by
  induction l with
  | nil => simp [compB]
  | cons a l ih =>
    cases l with
    | nil => simp [compB]
    | cons b l =>
      by_cases h : a = b
      · rw [compB, if_pos h, ih]; subst h; simp
      · rw [compB, if_neg h, List.mem_cons, ih]; exact List.mem_cons.symm
theorem compB_inc {l : List BK} (h : BAsc l) (hok : ∀ x ∈ l, x.Ok) : BInc (compB l) := by
  induction l with
  | nil => exact List.Pairwise.nil
  | cons a l ih =>
    cases l with
    | nil => exact List.pairwise_singleton _ _
    | cons b l =>
      obtain ⟨h1, h2⟩ := List.pairwise_cons.1 h
      have h3 := ih h2 (fun x hx => hok x (List.mem_cons_of_mem _ hx))
      by_cases hab : a = b
      · rw [compB, if_pos hab]; exact h3
      · rw [compB, if_neg hab]
        refine List.pairwise_cons.2 ⟨fun x hx => ?_, h3⟩
        have hx2 : x ∈ b :: l := compB_mem.1 hx
        have hbl : bless a b := by
          by_cases hlt : bless a b
          · exact hlt
          · exact absurd (bless_total (hok a (by simp)) (hok b (by simp)) hlt (h1 b (by simp))) hab
        rcases List.mem_cons.1 hx2 with rfl | hx3
        · exact hbl
        · have hbx : ¬ bless x b := (List.pairwise_cons.1 h2).1 x hx3
          by_cases hlt : bless a x
          · exact hlt
          · exact absurd hbl (bless_ntrans hlt hbx)
theorem compB_le (l : List BK) : (compB l).length ≤ l.length := by
  induction l with
  | nil => simp [compB]
  | cons a l ih =>
    cases l with
    | nil => simp [compB]
    | cons b l =>
      by_cases h : a = b
      · rw [compB, if_pos h]; exact Nat.le_trans ih (by simp)
      · rw [compB, if_neg h]; simpa using ih

def CmpTo (es : List BK) (w : World) (i : Value) (wr : World) : Prop := ∃ k q : Nat, i = .int .i64 ((k : Int) + 1) ∧ k + 1 ≤ es.length ∧ compB (es.take (k + 1)) = es.take (k + 1) ∧ wr = w.drewN q
def CmpIn (es : List BK) (k0 : Nat) (v : Value) (w : World) (F : HL) (i j : Value) (wr : World) : Prop :=
  ∃ (k m : Nat) (cs : List BK) (H : HL), i = .int .i64 k ∧ j = .int .i64 ((m : Int) + 1) ∧ k ≤ k0 + m ∧ k0 + m < es.length ∧ cs.length = es.length ∧ cs.take k = compB (es.take (k0 + m + 1)) ∧ (∀ q (hq : q < es.length), k0 + m ≤ q → cs[q]? = some es[q]) ∧ IsBks v cs H ∧ Holds wr (H ++ F) ∧ Grew w wr
set_option maxRecDepth 20000 in
set_option maxHeartbeats 2000000 in
theorem idcompact_any (v : Value) (es : List BK) (H Fr : HL) (w : World) (hv : IsBks v es H) (hH : Holds w (H ++ Fr)) (hsm : es.length ≤ 1000000) :
    Calls Try.prog 71 #[v] w (RetNew (fun v' H' => IsBks v' (compB es) H') w Fr) := by
  have HV := Lib.hid hv
  have HH := Lib.hid hH
  obtain ⟨A, c, rfl⟩ := hv.val
  obtain ⟨n, hn⟩ : ∃ n, n = es.length := ⟨_, rfl⟩
  have HN := Lib.hid hn
  by_cases h2 : es.length < 2
  · have hc : compB es = es := by
      match es, h2 with
      | [], _ => rfl
      | [x], _ => rfl
    rw [← hn] at hsm h2 ⊢
    clear hv hH hn
    go_enter Try.func71, Try.ntmps71
    go_wp2_with fail
    go_ret
    exact ⟨_, H, rfl, by rw [hc]; rw [HN.out]; exact HV.out, HH.out, Grew.refl _⟩
  obtain ⟨g, cap, hvv, hc1, hc2, hrd, hq1, hq2⟩ := hv.own (by omega)
  obtain ⟨e1, e3⟩ : A = some ⟨g, 0, none⟩ ∧ cap = c := by injection hvv with e1 _ e3; exact ⟨e1, e3.symm⟩
  subst e1 e3
  clear hq1 hq2 hvv
  have HRD := Lib.hid hrd
  unfold maxLen at hc2
  rw [← hn] at hsm h2 hc1 ⊢
  clear hv hH hn hrd
  go_enter Try.func71, Try.ntmps71
  go_wp2_with fail
  go_loopw [3] (fun i wr => CmpTo es w i wr) (fun i _ => n - (intOf i).toNat)
  case atStart =>
    refine ⟨0, 0, rfl, by rw [← HN.out]; omega, ?_, rfl⟩
    cases es with
    | nil => rfl
    | cons x r => rfl
  case round =>
    obtain ⟨k, q, rfl, hk, hcb, rfl⟩ := hrel
    rw [← HN.out] at hk
    have HCB := Lib.hid hcb
    clear hcb
    by_cases hlt : k + 1 < n
    · have hk1 : k + 1 < es.length := by rw [← HN.out]; exact hlt
      have hk0 : k < es.length := by omega
      obtain ⟨hce, hq1⟩ := HRD.out (w.drewN q) Fr (HH.out.drewN q)
      clear hq1
      obtain ⟨d0, d1, d2⟩ := hce (k + 1) hk1
      obtain ⟨f0, f1, f2⟩ := hce k hk0
      have HTK := Lib.hid (compB_take hk1)
      have HT2 := Lib.hid (List.take_succ_eq_append_getElem hk1)
      have HX1 : Hid (es[k + 1] = es[k + 1]) := Lib.hid rfl
      clear hce
      have hjw : IntKind.i64.wrap (k : Int) = k := by simp only [IntKind.wrap, IntKind.signed, IntKind.bits]; simp; omega
      have hkk : ((k : Int) + 1 - 1) = k := by omega
      have hj0 : (0 : Int) ≤ (k : Int) + 1 := by omega
      have hk0n : k < n := by omega
      by_cases hxy : es[k] = es[k + 1]
      · have HEQ := Lib.hid hxy
        rw [← hxy] at d0 d1 d2
        clear HX1
        have HTK2 := Lib.hid (HTK.out.trans (if_pos HEQ.out))
        clear HTK HT2 hxy
        generalize hx : es[k] = x at d0 d1 d2 f0 f1 f2
        obtain ⟨x0, x1, x2⟩ := x
        simp only [strB] at d0 d1 d2 f0 f1 f2
        clear hx
        go_upto_region 6 with fail
        refine Z_begin (fun wx => wx.cell? ⟨g, (k + 1) * 3, none⟩ = some (.bool x0) ∧ wx.cell? ⟨g, (k + 1) * 3 + 1, none⟩ = some (.bool x1) ∧ wx.cell? ⟨g, (k + 1) * 3 + 2, none⟩ = some (.string ⟨x2.toArray⟩) ∧ wx.cell? ⟨g, k * 3, none⟩ = some (.bool x0) ∧ wx.cell? ⟨g, k * 3 + 1, none⟩ = some (.bool x1) ∧ wx.cell? ⟨g, k * 3 + 2, none⟩ = some (.string ⟨x2.toArray⟩)) 10 (by kernel_rfl) (fun w1 hd => by obtain ⟨q, rfl⟩ := hd; exact ⟨d0, d1, d2, f0, f1, f2⟩) (fun w1 hd hs => ?_)
        obtain ⟨nq, rfl⟩ := hd
        refine Z_takeD 0 (some 16) (v := ?_) rfl rfl (by kernel_rfl) (fun _ _ _ h => h) (by rfl) hs ?_ ?_
        rotate_left
        · intro wx hx; obtain ⟨s1, s2, s3, s4, s5, s6⟩ := hx; go_simp; try with_reducible rfl
        simp only [Act.put, List.setIfInBounds_toArray, List.set_cons_succ, List.set_cons_zero]
        refine Z_takeD 1 (some 17) (v := ?_) rfl rfl (by kernel_rfl) (fun _ _ _ h => h) (by rfl) hs ?_ ?_
        rotate_left
        · intro wx hx; obtain ⟨s1, s2, s3, s4, s5, s6⟩ := hx; go_simp; try with_reducible rfl
        simp only [Act.put, List.setIfInBounds_toArray, List.set_cons_succ, List.set_cons_zero]
        refine Z_takeD 2 (some 18) (v := ?_) rfl rfl (by kernel_rfl) (fun _ _ _ h => h) (by rfl) hs ?_ ?_
        rotate_left
        · intro wx hx; obtain ⟨s1, s2, s3, s4, s5, s6⟩ := hx; go_simp; try with_reducible rfl
        simp only [Act.put, List.setIfInBounds_toArray, List.set_cons_succ, List.set_cons_zero]
        refine Z_takeD 3 (some 19) (v := ?_) rfl rfl (by kernel_rfl) (fun _ _ _ h => h) (by rfl) hs ?_ ?_
        rotate_left
        · intro wx hx; obtain ⟨s1, s2, s3, s4, s5, s6⟩ := hx; go_simp; try with_reducible rfl
        simp only [Act.put, List.setIfInBounds_toArray, List.set_cons_succ, List.set_cons_zero]
        refine Z_takeD 4 (some 20) (v := ?_) rfl rfl (by kernel_rfl) (fun _ _ _ h => h) (by rfl) hs ?_ ?_
        rotate_left
        · intro wx hx; obtain ⟨s1, s2, s3, s4, s5, s6⟩ := hx; go_simp; try with_reducible rfl
        simp only [Act.put, List.setIfInBounds_toArray, List.set_cons_succ, List.set_cons_zero]
        refine Z_takeD 5 (some 21) (v := ?_) rfl rfl (by kernel_rfl) (fun _ _ _ h => h) (by rfl) hs ?_ ?_
        rotate_left
        · intro wx hx; obtain ⟨s1, s2, s3, s4, s5, s6⟩ := hx; go_simp; try with_reducible rfl
        simp only [Act.put, List.setIfInBounds_toArray, List.set_cons_succ, List.set_cons_zero]
        refine Z_takeD 6 (some 22) (v := ?_) rfl rfl (by kernel_rfl) (fun _ _ _ h => h) (by rfl) hs ?_ ?_
        rotate_left
        · intro wx hx; obtain ⟨s1, s2, s3, s4, s5, s6⟩ := hx; go_simp; try with_reducible rfl
        simp only [Act.put, List.setIfInBounds_toArray, List.set_cons_succ, List.set_cons_zero]
        refine Z_takeD 7 (some 23) (v := ?_) rfl rfl (by kernel_rfl) (fun _ _ _ h => h) (by rfl) hs ?_ ?_
        rotate_left
        · intro wx hx; obtain ⟨s1, s2, s3, s4, s5, s6⟩ := hx; go_simp; try with_reducible rfl
        simp only [Act.put, List.setIfInBounds_toArray, List.set_cons_succ, List.set_cons_zero]
        refine Z_takeD 8 (some 24) (v := ?_) rfl rfl (by kernel_rfl) (fun _ _ _ h => h) (by rfl) hs ?_ ?_
        rotate_left
        · intro wx hx; obtain ⟨s1, s2, s3, s4, s5, s6⟩ := hx; go_simp; try with_reducible rfl
        simp only [Act.put, List.setIfInBounds_toArray, List.set_cons_succ, List.set_cons_zero]
        refine Z_takeD 9 (some 25) (v := ?_) rfl rfl (by kernel_rfl) (fun _ _ _ h => h) (by rfl) hs ?_ ?_
        rotate_left
        · intro wx hx; obtain ⟨s1, s2, s3, s4, s5, s6⟩ := hx; go_simp; try with_reducible rfl
        simp only [Act.put, List.setIfInBounds_toArray, List.set_cons_succ, List.set_cons_zero]
        refine Z_done (by kernel_rfl) ?_ _
        have hH2 := (HH.out.drewN q).drewN nq
        have hg2 := ((Grew.refl w).drewN q).drewN nq
        generalize (w.drewN q).drewN nq = w2 at *
        have hck : ¬ cap = k + 1 := by omega
        have hto : ((k : Int) + 1).toNat = k + 1 := by omega
        have hlc : k + 1 ≤ n := by omega
        clear hs d0 d1 d2 f0 f1 f2
        go_wp2_with fail
        go_loopw [3, 5] (fun i j wr => CmpIn es (k + 1) (.slice (some ⟨g, 0, none⟩) n cap) w Fr i j wr) (fun _ j _ => n - (k + 1) - (intOf j).toNat)
        case atStart =>
          refine ⟨k + 1, 0, es, H, by go_num, rfl, by omega, by rw [← HN.out]; omega, rfl, ?_, fun q hq _ => List.getElem?_eq_getElem hq, by rw [HN.out]; exact HV.out, hH2, hg2⟩
          have := HTK2.out
          rw [HCB.out] at this
          exact this.symm
        case round =>
          clear hH2 hg2
          obtain ⟨k2, m, cs, Hc, rfl, rfl, hk2, hm, hcl, hct, hcd, hcv, hHc, hgc⟩ := hrel
          rw [← HN.out] at hm hcl
          have HCV := Lib.hid hcv
          have HHC := Lib.hid hHc
          have HCL := Lib.hid hcl
          have HCT := Lib.hid hct
          have HCD := Lib.hid hcd
          obtain ⟨g', cap', hvv, hq1, hq2, hrd2, hst, hcut⟩ := hcv.own (by omega)
          obtain ⟨q1, q3⟩ := slice_inj hvv
          subst q1
          subst q3
          clear hq1 hq2 hvv
          clear hct hcd hcv
          by_cases hlt2 : m + 1 < n - (k + 1)
          · have hi1 : k + 1 + m + 1 < es.length := by rw [← HN.out]; omega
            have hi0 : k + 1 + m < es.length := by omega
            have hic1 : k + 1 + m + 1 < cs.length := by omega
            have hic0 : k + 1 + m < cs.length := by omega
            obtain ⟨hce, hfr⟩ := hrd2 wr Fr hHc
            obtain ⟨d0, d1, d2⟩ := hce (k + 1 + m + 1) hic1
            obtain ⟨f0, f1, f2⟩ := hce (k + 1 + m) hic0
            have z0 := hfr (k2 * 3) (by omega)
            have z1 := hfr (k2 * 3 + 1) (by omega)
            have z2 := hfr (k2 * 3 + 2) (by omega)
            have c0 := hce k2 (by omega)
            have HST := Lib.hid hst
            have HTK3 := Lib.hid (compB_take hi1)
            have ex1 : cs[k + 1 + m + 1] = es[k + 1 + m + 1] := by
              have := HCD.out (k + 1 + m + 1) hi1 (by omega)
              rw [List.getElem?_eq_getElem hic1] at this
              exact Option.some.inj this
            have ex0 : cs[k + 1 + m] = es[k + 1 + m] := by
              have := HCD.out (k + 1 + m) hi0 (by omega)
              rw [List.getElem?_eq_getElem hic0] at this
              exact Option.some.inj this
            rw [ex1] at d0 d1 d2
            rw [ex0] at f0 f1 f2
            have hidx1 : (k + 1) * 3 + (m + 1) * 3 = (k + 1 + m + 1) * 3 := by omega
            have hidx0 : (k + 1) * 3 + m * 3 = (k + 1 + m) * 3 := by omega
            rw [← hidx1] at d0 d1 d2
            rw [← hidx0] at f0 f1 f2
            have hjw2 : IntKind.i64.wrap (m : Int) = m := by simp only [IntKind.wrap, IntKind.signed, IntKind.bits]; simp; omega
            have hmm : ((m : Int) + 1 - 1) = m := by omega
            have hj02 : (0 : Int) ≤ (m : Int) + 1 := by omega
            have hm0n : m < n - (k + 1) := by omega
            clear hce hfr hrd2 hst hcut ex0 ex1 hidx0 hidx1
            by_cases hxy : es[k + 1 + m] = es[k + 1 + m + 1]
            · have HTK4 := Lib.hid (HTK3.out.trans (if_pos hxy))
              rw [← hxy] at d0 d1 d2
              clear HTK3 hxy c0
              generalize es[k + 1 + m] = y at d0 d1 d2 f0 f1 f2
              obtain ⟨y0, y1, y2⟩ := y
              simp only [strB] at d0 d1 d2 f0 f1 f2
              clear z0 z1 z2 HST
              go_upto_region 11 with fail
              refine Z_begin (fun wx => wx.cell? ⟨g, (k + 1) * 3 + (m + 1) * 3, none⟩ = some (.bool y0) ∧ wx.cell? ⟨g, (k + 1) * 3 + (m + 1) * 3 + 1, none⟩ = some (.bool y1) ∧ wx.cell? ⟨g, (k + 1) * 3 + (m + 1) * 3 + 2, none⟩ = some (.string ⟨y2.toArray⟩) ∧ wx.cell? ⟨g, (k + 1) * 3 + m * 3, none⟩ = some (.bool y0) ∧ wx.cell? ⟨g, (k + 1) * 3 + m * 3 + 1, none⟩ = some (.bool y1) ∧ wx.cell? ⟨g, (k + 1) * 3 + m * 3 + 2, none⟩ = some (.string ⟨y2.toArray⟩)) 10 (by kernel_rfl) (fun w1 hd => by obtain ⟨q, rfl⟩ := hd; exact ⟨d0, d1, d2, f0, f1, f2⟩) (fun w1 hd hs => ?_)
              obtain ⟨nq2, rfl⟩ := hd
              refine Z_takeD 0 (some 35) (v := ?_) rfl rfl (by kernel_rfl) (fun _ _ _ h => h) (by rfl) hs ?_ ?_
              rotate_left
              · intro wx hx; obtain ⟨s1, s2, s3, s4, s5, s6⟩ := hx; go_simp; try with_reducible rfl
              simp only [Act.put, List.setIfInBounds_toArray, List.set_cons_succ, List.set_cons_zero]
              refine Z_takeD 1 (some 36) (v := ?_) rfl rfl (by kernel_rfl) (fun _ _ _ h => h) (by rfl) hs ?_ ?_
              rotate_left
              · intro wx hx; obtain ⟨s1, s2, s3, s4, s5, s6⟩ := hx; go_simp; try with_reducible rfl
              simp only [Act.put, List.setIfInBounds_toArray, List.set_cons_succ, List.set_cons_zero]
              refine Z_takeD 2 (some 37) (v := ?_) rfl rfl (by kernel_rfl) (fun _ _ _ h => h) (by rfl) hs ?_ ?_
              rotate_left
              · intro wx hx; obtain ⟨s1, s2, s3, s4, s5, s6⟩ := hx; go_simp; try with_reducible rfl
              simp only [Act.put, List.setIfInBounds_toArray, List.set_cons_succ, List.set_cons_zero]
              refine Z_takeD 3 (some 38) (v := ?_) rfl rfl (by kernel_rfl) (fun _ _ _ h => h) (by rfl) hs ?_ ?_
              rotate_left
              · intro wx hx; obtain ⟨s1, s2, s3, s4, s5, s6⟩ := hx; go_simp; try with_reducible rfl
              simp only [Act.put, List.setIfInBounds_toArray, List.set_cons_succ, List.set_cons_zero]
              refine Z_takeD 4 (some 39) (v := ?_) rfl rfl (by kernel_rfl) (fun _ _ _ h => h) (by rfl) hs ?_ ?_
              rotate_left
              · intro wx hx; obtain ⟨s1, s2, s3, s4, s5, s6⟩ := hx; go_simp; try with_reducible rfl
              simp only [Act.put, List.setIfInBounds_toArray, List.set_cons_succ, List.set_cons_zero]
              refine Z_takeD 5 (some 40) (v := ?_) rfl rfl (by kernel_rfl) (fun _ _ _ h => h) (by rfl) hs ?_ ?_
              rotate_left
              · intro wx hx; obtain ⟨s1, s2, s3, s4, s5, s6⟩ := hx; go_simp; try with_reducible rfl
              simp only [Act.put, List.setIfInBounds_toArray, List.set_cons_succ, List.set_cons_zero]
              refine Z_takeD 6 (some 41) (v := ?_) rfl rfl (by kernel_rfl) (fun _ _ _ h => h) (by rfl) hs ?_ ?_
              rotate_left
              · intro wx hx; obtain ⟨s1, s2, s3, s4, s5, s6⟩ := hx; go_simp; try with_reducible rfl
              simp only [Act.put, List.setIfInBounds_toArray, List.set_cons_succ, List.set_cons_zero]
              refine Z_takeD 7 (some 42) (v := ?_) rfl rfl (by kernel_rfl) (fun _ _ _ h => h) (by rfl) hs ?_ ?_
              rotate_left
              · intro wx hx; obtain ⟨s1, s2, s3, s4, s5, s6⟩ := hx; go_simp; try with_reducible rfl
              simp only [Act.put, List.setIfInBounds_toArray, List.set_cons_succ, List.set_cons_zero]
              refine Z_takeD 8 (some 43) (v := ?_) rfl rfl (by kernel_rfl) (fun _ _ _ h => h) (by rfl) hs ?_ ?_
              rotate_left
              · intro wx hx; obtain ⟨s1, s2, s3, s4, s5, s6⟩ := hx; go_simp; try with_reducible rfl
              simp only [Act.put, List.setIfInBounds_toArray, List.set_cons_succ, List.set_cons_zero]
              refine Z_takeD 9 (some 44) (v := ?_) rfl rfl (by kernel_rfl) (fun _ _ _ h => h) (by rfl) hs ?_ ?_
              rotate_left
              · intro wx hx; obtain ⟨s1, s2, s3, s4, s5, s6⟩ := hx; go_simp; try with_reducible rfl
              simp only [Act.put, List.setIfInBounds_toArray, List.set_cons_succ, List.set_cons_zero]
              refine Z_done (by kernel_rfl) ?_ _
              go_wp2_with fail
              go_roundw
              case rel =>
                refine ⟨k2, m + 1, cs, Hc, rfl, by go_num, by omega, by omega, by rw [HCL.out, HN.out], ?_, fun q hq hq2 => HCD.out q hq (by omega), HCV.out, HHC.out.drewN _, hgc.drewN _⟩
                rw [HCT.out]
                exact HTK4.out.symm
              case measure => simp [intOf] <;> omega
            · have HTK4 := Lib.hid (HTK3.out.trans (if_neg hxy))
              have HNE := Lib.hid hxy
              clear HTK3 hxy
              have HXX : Hid (es[k + 1 + m + 1] = es[k + 1 + m + 1]) := Lib.hid rfl
              generalize hy : es[k + 1 + m] = y at d0 d1 d2 f0 f1 f2 HNE
              generalize hx : es[k + 1 + m + 1] = x at d0 d1 d2 f0 f1 f2 HNE HTK4
              have HSX := Lib.hid (fun (wx : World) (hwx : Holds wx (Hc ++ Fr)) => HST.out wx Fr hwx k2 (by omega) x)
              have HKS : Hid (∀ q (hq : q < es.length), k + 1 + m + 1 ≤ q → (cs.set k2 x)[q]? = some es[q]) := Lib.hid (fun q hq hq2 => by rw [List.getElem?_set_ne (by omega)]; exact HCD.out q hq (by omega))
              have HTS : Hid ((cs.set k2 x).take (k2 + 1) = cs.take k2 ++ [x]) := Lib.hid (by
                have hl : k2 < (cs.set k2 x).length := by rw [List.length_set]; omega
                rw [List.take_succ_eq_append_getElem hl, List.getElem_set_self, List.take_set_of_le (by omega)])
              obtain ⟨x0, x1, x2⟩ := x
              obtain ⟨y0, y1, y2⟩ := y
              simp only [strB] at d0 d1 d2 f0 f1 f2
              obtain ⟨c0, c1, c2⟩ := c0
              generalize cs[k2] = u at c0 c1 c2
              clear hx hy HXX HST
              go_upto_region 11 with fail
              refine Z_begin (fun wx => wx.cell? ⟨g, (k + 1) * 3 + (m + 1) * 3, none⟩ = some (.bool x0) ∧ wx.cell? ⟨g, (k + 1) * 3 + (m + 1) * 3 + 1, none⟩ = some (.bool x1) ∧ wx.cell? ⟨g, (k + 1) * 3 + (m + 1) * 3 + 2, none⟩ = some (.string ⟨x2.toArray⟩) ∧ wx.cell? ⟨g, (k + 1) * 3 + m * 3, none⟩ = some (.bool y0) ∧ wx.cell? ⟨g, (k + 1) * 3 + m * 3 + 1, none⟩ = some (.bool y1) ∧ wx.cell? ⟨g, (k + 1) * 3 + m * 3 + 2, none⟩ = some (.string ⟨y2.toArray⟩)) 10 (by kernel_rfl) (fun w1 hd => by obtain ⟨q, rfl⟩ := hd; exact ⟨d0, d1, d2, f0, f1, f2⟩) (fun w1 hd hs => ?_)
              obtain ⟨nq2, rfl⟩ := hd
              refine Z_takeD 0 (some 35) (v := ?_) rfl rfl (by kernel_rfl) (fun _ _ _ h => h) (by rfl) hs ?_ ?_
              rotate_left
              · intro wx hx; obtain ⟨s1, s2, s3, s4, s5, s6⟩ := hx; go_simp; try with_reducible rfl
              simp only [Act.put, List.setIfInBounds_toArray, List.set_cons_succ, List.set_cons_zero]
              refine Z_takeD 1 (some 36) (v := ?_) rfl rfl (by kernel_rfl) (fun _ _ _ h => h) (by rfl) hs ?_ ?_
              rotate_left
              · intro wx hx; obtain ⟨s1, s2, s3, s4, s5, s6⟩ := hx; go_simp; try with_reducible rfl
              simp only [Act.put, List.setIfInBounds_toArray, List.set_cons_succ, List.set_cons_zero]
              refine Z_takeD 2 (some 37) (v := ?_) rfl rfl (by kernel_rfl) (fun _ _ _ h => h) (by rfl) hs ?_ ?_
              rotate_left
              · intro wx hx; obtain ⟨s1, s2, s3, s4, s5, s6⟩ := hx; go_simp; try with_reducible rfl
              simp only [Act.put, List.setIfInBounds_toArray, List.set_cons_succ, List.set_cons_zero]
              refine Z_takeD 3 (some 38) (v := ?_) rfl rfl (by kernel_rfl) (fun _ _ _ h => h) (by rfl) hs ?_ ?_
              rotate_left
              · intro wx hx; obtain ⟨s1, s2, s3, s4, s5, s6⟩ := hx; go_simp; try with_reducible rfl
              simp only [Act.put, List.setIfInBounds_toArray, List.set_cons_succ, List.set_cons_zero]
              refine Z_takeD 4 (some 39) (v := ?_) rfl rfl (by kernel_rfl) (fun _ _ _ h => h) (by rfl) hs ?_ ?_
              rotate_left
              · intro wx hx; obtain ⟨s1, s2, s3, s4, s5, s6⟩ := hx; go_simp; try with_reducible rfl
              simp only [Act.put, List.setIfInBounds_toArray, List.set_cons_succ, List.set_cons_zero]
              refine Z_takeD 5 (some 40) (v := ?_) rfl rfl (by kernel_rfl) (fun _ _ _ h => h) (by rfl) hs ?_ ?_
              rotate_left
              · intro wx hx; obtain ⟨s1, s2, s3, s4, s5, s6⟩ := hx; go_simp; try with_reducible rfl
              simp only [Act.put, List.setIfInBounds_toArray, List.set_cons_succ, List.set_cons_zero]
              refine Z_takeD 6 (some 41) (v := ?_) rfl rfl (by kernel_rfl) (fun _ _ _ h => h) (by rfl) hs ?_ ?_
              rotate_left
              · intro wx hx; obtain ⟨s1, s2, s3, s4, s5, s6⟩ := hx; go_simp; try with_reducible rfl
              simp only [Act.put, List.setIfInBounds_toArray, List.set_cons_succ, List.set_cons_zero]
              refine Z_takeD 7 (some 42) (v := ?_) rfl rfl (by kernel_rfl) (fun _ _ _ h => h) (by rfl) hs ?_ ?_
              rotate_left
              · intro wx hx; obtain ⟨s1, s2, s3, s4, s5, s6⟩ := hx; go_simp; try with_reducible rfl
              simp only [Act.put, List.setIfInBounds_toArray, List.set_cons_succ, List.set_cons_zero]
              refine Z_takeD 8 (some 43) (v := ?_) rfl rfl (by kernel_rfl) (fun _ _ _ h => h) (by rfl) hs ?_ ?_
              rotate_left
              · intro wx hx; obtain ⟨s1, s2, s3, s4, s5, s6⟩ := hx; go_simp; try with_reducible rfl
              simp only [Act.put, List.setIfInBounds_toArray, List.set_cons_succ, List.set_cons_zero]
              refine Z_takeD 9 (some 44) (v := .bool true) rfl rfl (by kernel_rfl) (fun _ _ _ h => h) (by rfl) hs ?_ ?_
              · intro wx hx; obtain ⟨s1, s2, s3, s4, s5, s6⟩ := hx; go_simp; intro a b c; exact HNE.out (by rw [a, b, c])
              simp only [Act.put, List.setIfInBounds_toArray, List.set_cons_succ, List.set_cons_zero]
              refine Z_done (by kernel_rfl) ?_ _
              obtain ⟨H7, hb7, hh7⟩ := HSX.out (wr.drewN nq2) (HHC.out.drewN nq2)
              have hg7 := (((hgc.drewN nq2).setCell ⟨g, k2 * 3, none⟩ (.bool x0)).setCell ⟨g, k2 * 3 + 1, none⟩ (.bool x1)).setCell ⟨g, k2 * 3 + 2, none⟩ (.string ⟨x2.toArray⟩)
              have HB7 := Lib.hid hb7
              have HH7 := Lib.hid hh7
              clear HSX hb7 hh7 hs
              go_wp2_with fail
              go_roundw
              case rel =>
                refine ⟨k2 + 1, m + 1, cs.set k2 ⟨x0, x1, x2⟩, H7, by go_num, by go_num, by omega, by omega, by rw [List.length_set, HCL.out, HN.out], ?_, HKS.out, HB7.out, HH7.out, hg7⟩
                rw [HTS.out, HCT.out]
                exact HTK4.out.symm
              case measure => simp [intOf] <;> omega
          · have hmn : k + 1 + m + 1 = n := by omega
            obtain ⟨wy, Hy, hcle, hbv, hHy, hgy⟩ := hcut wr Fr hHc k2 (by omega)
            have HBV := Lib.hid hbv
            rw [HCL.out] at hcle
            have hck2 : ¬ cap = k2 := by omega
            have hkn : k2 ≤ n := by omega
            have hkcap : k2 ≤ cap := by omega
            have hto2 : ((k2 : Int)).toNat = k2 := by omega
            have HE : Hid (compB (es.take (k + 1 + m + 1)) = compB es) := Lib.hid (by rw [List.take_of_length_le (by rw [← HN.out]; omega)])
            have hckz : (if cap = k2 then some (⟨g, 0, none⟩ : Addr) else some ⟨g, k2 * 3, none⟩) = some ⟨g, k2 * 3, none⟩ := if_neg hck2
            clear hrd2 hst hcut hbv hmn
            go_wp2_with fail
            go_ret
            exact ⟨_, Hy, rfl, by rw [← HE.out, ← HCT.out]; exact HBV.out, hHy, hgc.trans hgy⟩
      · have HTK2 := Lib.hid (HTK.out.trans (if_neg hxy))
        have HNE := Lib.hid hxy
        clear HTK hxy HX1
        generalize es[k] = y at f0 f1 f2 HNE
        generalize hx : es[k + 1] = x at d0 d1 d2 HNE HTK2 HT2
        obtain ⟨x0, x1, x2⟩ := x
        obtain ⟨y0, y1, y2⟩ := y
        simp only [strB] at d0 d1 d2 f0 f1 f2
        clear hx
        go_upto_region 6 with fail
        refine Z_begin (fun wx => wx.cell? ⟨g, (k + 1) * 3, none⟩ = some (.bool x0) ∧ wx.cell? ⟨g, (k + 1) * 3 + 1, none⟩ = some (.bool x1) ∧ wx.cell? ⟨g, (k + 1) * 3 + 2, none⟩ = some (.string ⟨x2.toArray⟩) ∧ wx.cell? ⟨g, k * 3, none⟩ = some (.bool y0) ∧ wx.cell? ⟨g, k * 3 + 1, none⟩ = some (.bool y1) ∧ wx.cell? ⟨g, k * 3 + 2, none⟩ = some (.string ⟨y2.toArray⟩)) 10 (by kernel_rfl) (fun w1 hd => by obtain ⟨q, rfl⟩ := hd; exact ⟨d0, d1, d2, f0, f1, f2⟩) (fun w1 hd hs => ?_)
        obtain ⟨nq, rfl⟩ := hd
        refine Z_takeD 0 (some 16) (v := ?_) rfl rfl (by kernel_rfl) (fun _ _ _ h => h) (by rfl) hs ?_ ?_
        rotate_left
        · intro wx hx; obtain ⟨s1, s2, s3, s4, s5, s6⟩ := hx; go_simp; try with_reducible rfl
        simp only [Act.put, List.setIfInBounds_toArray, List.set_cons_succ, List.set_cons_zero]
        refine Z_takeD 1 (some 17) (v := ?_) rfl rfl (by kernel_rfl) (fun _ _ _ h => h) (by rfl) hs ?_ ?_
        rotate_left
        · intro wx hx; obtain ⟨s1, s2, s3, s4, s5, s6⟩ := hx; go_simp; try with_reducible rfl
        simp only [Act.put, List.setIfInBounds_toArray, List.set_cons_succ, List.set_cons_zero]
        refine Z_takeD 2 (some 18) (v := ?_) rfl rfl (by kernel_rfl) (fun _ _ _ h => h) (by rfl) hs ?_ ?_
        rotate_left
        · intro wx hx; obtain ⟨s1, s2, s3, s4, s5, s6⟩ := hx; go_simp; try with_reducible rfl
        simp only [Act.put, List.setIfInBounds_toArray, List.set_cons_succ, List.set_cons_zero]
        refine Z_takeD 3 (some 19) (v := ?_) rfl rfl (by kernel_rfl) (fun _ _ _ h => h) (by rfl) hs ?_ ?_
        rotate_left
        · intro wx hx; obtain ⟨s1, s2, s3, s4, s5, s6⟩ := hx; go_simp; try with_reducible rfl
        simp only [Act.put, List.setIfInBounds_toArray, List.set_cons_succ, List.set_cons_zero]
        refine Z_takeD 4 (some 20) (v := ?_) rfl rfl (by kernel_rfl) (fun _ _ _ h => h) (by rfl) hs ?_ ?_
        rotate_left
        · intro wx hx; obtain ⟨s1, s2, s3, s4, s5, s6⟩ := hx; go_simp; try with_reducible rfl
        simp only [Act.put, List.setIfInBounds_toArray, List.set_cons_succ, List.set_cons_zero]
        refine Z_takeD 5 (some 21) (v := ?_) rfl rfl (by kernel_rfl) (fun _ _ _ h => h) (by rfl) hs ?_ ?_
        rotate_left
        · intro wx hx; obtain ⟨s1, s2, s3, s4, s5, s6⟩ := hx; go_simp; try with_reducible rfl
        simp only [Act.put, List.setIfInBounds_toArray, List.set_cons_succ, List.set_cons_zero]
        refine Z_takeD 6 (some 22) (v := ?_) rfl rfl (by kernel_rfl) (fun _ _ _ h => h) (by rfl) hs ?_ ?_
        rotate_left
        · intro wx hx; obtain ⟨s1, s2, s3, s4, s5, s6⟩ := hx; go_simp; try with_reducible rfl
        simp only [Act.put, List.setIfInBounds_toArray, List.set_cons_succ, List.set_cons_zero]
        refine Z_takeD 7 (some 23) (v := ?_) rfl rfl (by kernel_rfl) (fun _ _ _ h => h) (by rfl) hs ?_ ?_
        rotate_left
        · intro wx hx; obtain ⟨s1, s2, s3, s4, s5, s6⟩ := hx; go_simp; try with_reducible rfl
        simp only [Act.put, List.setIfInBounds_toArray, List.set_cons_succ, List.set_cons_zero]
        refine Z_takeD 8 (some 24) (v := ?_) rfl rfl (by kernel_rfl) (fun _ _ _ h => h) (by rfl) hs ?_ ?_
        rotate_left
        · intro wx hx; obtain ⟨s1, s2, s3, s4, s5, s6⟩ := hx; go_simp; try with_reducible rfl
        simp only [Act.put, List.setIfInBounds_toArray, List.set_cons_succ, List.set_cons_zero]
        refine Z_takeD 9 (some 25) (v := .bool false) rfl rfl (by kernel_rfl) (fun _ _ _ h => h) (by rfl) hs ?_ ?_
        · intro wx hx; obtain ⟨s1, s2, s3, s4, s5, s6⟩ := hx; go_simp; intro a b c; exact HNE.out (by rw [a, b, c])
        simp only [Act.put, List.setIfInBounds_toArray, List.set_cons_succ, List.set_cons_zero]
        refine Z_done (by kernel_rfl) ?_ _
        go_wp2_with fail
        go_roundw
        case rel =>
          refine ⟨k + 1, q + nq, by go_num, by rw [← HN.out]; omega, ?_, by first | rfl | exact drewN2 _ _ _⟩
          rw [show k + 1 + 1 = k + 2 from rfl, HTK2.out, HCB.out]
          exact HT2.out.symm
        case measure => simp [intOf] <;> omega
    · have hkn : k + 1 = n := by omega
      have HE : Hid (compB es = es) := Lib.hid (by
        have := HCB.out
        rw [List.take_of_length_le (by rw [← HN.out]; omega)] at this
        exact this)
      clear hkn
      go_wp2_with fail
      go_ret
      exact ⟨_, H, rfl, by rw [HE.out, HN.out]; exact HV.out, HH.out.drewN q, (Grew.refl w).drewN q⟩
end Go.Proofs.Ytinfbpldgobmfaa
namespace Go.Proofs.Ytinfbpldgobmfaa
open Go.RowKit
set_option linter.unusedSimpArgs false
set_option linter.unusedVariables false

theorem idonly1_any (x : BK) (d : Bool) (b : Nat) (W : World) (hb : W.cell? ⟨b, 0, none⟩ = some (.bool d)) : Calls Try.prog 56 #[.agg x.cells.toArray, .pointer (some ⟨b, 0, none⟩)] W fun en w' => en = .returned (.bool (x.dirty != d)) ∧ w' = W.alloc (.cells x.cells.toArray 71) := by
  obtain ⟨x0, x1, x2⟩ := x
  have hlt := World.block_lt_of_cell? W _ hb
  have hne : b ≠ W.heap.size := by simp only at hlt; omega
  simp only [BK.cells, strB]
  have hb2 : (W.alloc (.cells #[.bool x0, .bool x1, .string ⟨x2.toArray⟩] 71)).cell? ⟨b, 0, none⟩ = some (.bool d) := by rw [World.cell?_alloc_lt W _ _ hlt]; exact hb
  go_enter Try.func56, Try.ntmps56
  go_wp2_with fail
  go_ret
  exact ⟨rfl, rfl⟩
/-- where one stands that is another; -1 -/
def idxD (d : Bool) (es : List BK) : Int := Lib.idxBy (fun _ y : BK => y.dirty != d) es default
theorem idxD_spec (d : Bool) (es : List BK) : (idxD d es = -1 ∧ ∀ x ∈ es, (x.dirty == d) = true) ∨ ∃ i, ∃ h : i < es.length, idxD d es = (i : Nat) ∧ (es[i].dirty == d) = false ∧ ∀ j (hj : j < es.length), j < i → (es[j].dirty == d) = true := by
  unfold idxD Lib.idxBy
  have key : ∀ (es : List BK) (k : Nat), (Lib.idxByFrom (fun _ y : BK => y.dirty != d) default es k = -1 ∧ ∀ x ∈ es, (x.dirty == d) = true) ∨ ∃ i, ∃ h : i < es.length, Lib.idxByFrom (fun _ y : BK => y.dirty != d) default es k = (k + i : Nat) ∧ (es[i].dirty == d) = false ∧ ∀ j (hj : j < es.length), j < i → (es[j].dirty == d) = true := by
    intro es
    induction es with
    | nil => intro k; exact .inl ⟨rfl, by simp⟩
    | cons r rs ih =>
      intro k
      unfold Lib.idxByFrom
      cases hr : (r.dirty != d) with
      | true =>
        rw [if_pos rfl]
        exact .inr ⟨0, by simp, rfl, by simpa [bne] using hr, fun j hj h => by omega⟩
      | false =>
        have hr2 : (r.dirty == d) = true := by simpa [bne] using hr
        rw [if_neg (by decide)]
        rcases ih (k + 1) with ⟨h1, h2⟩ | ⟨i, hi, h1, h2, h3⟩
        · refine .inl ⟨h1, fun x hx => ?_⟩
          rcases List.mem_cons.1 hx with rfl | hx
          · exact hr2
          · exact h2 x hx
        · refine .inr ⟨i + 1, by simpa using hi, by rw [h1]; congr 1; omega, by simpa using h2, fun j hj hji => ?_⟩
          match j with
          | 0 => simpa using hr2
          | j + 1 => simpa using h3 j (by simpa using hj) (by omega)
  rcases key es 0 with h | ⟨i, hi, h1, h2⟩
  · exact .inl h
  · exact .inr ⟨i, hi, by simpa using h1, h2⟩
theorem ididxF_any (d : Bool) (p : Nat) (v : Value) (es : List BK) (w : World) (Fr : HL) (hp : w.cell? ⟨p, 0, none⟩ = some (.bool d)) (hv : BksAt w v es) (hH : Holds w Fr) :
    Calls Try.prog 57 #[v, .func (.func 56) #[] #[.pointer (some ⟨p, 0, none⟩)]] w (RetFr (.int .i64 (idxD d es)) w Fr) := by
  obtain ⟨A, c, rfl, hc1, hc2, hcl⟩ := hv.cells
  rcases Nat.eq_zero_or_pos es.length with h0 | h0
  · obtain rfl : es = [] := List.length_eq_zero_iff.1 h0
    refine (bidxNone_any A c _ w).mono ?_
    rintro e w' ⟨rfl, rfl⟩
    exact ⟨rfl, hH, Grew.refl _⟩
  · obtain ⟨b, o, rfl, hce⟩ := hcl h0
    have hcb := hce 0 h0
    rw [Nat.zero_mul, Nat.add_zero] at hcb
    have hbl : b < w.heap.size := World.block_lt_of_cell? w _ hcb.1
    have hpl : p < w.heap.size := World.block_lt_of_cell? w _ hp
    unfold maxLen at hc2
    have eg : ∀ args w, (callFunc 56 args).run Try.prog w = .ok (.enter 56 args) w := enters_of Try.func56 (by kernel_rfl) rfl
    have hcon := AnyQ.slices_IndexFunc layIdIdxF 3 Try.isAgg71 Try.sizeOf71 BK.cells (fun _ => rfl) (fun y : BK => y.dirty != d) 56 #[.pointer (some ⟨p, 0, none⟩)] eg b o es.length c es w
      (fun W x hb => by
        have hcw : W.cell? ⟨p, 0, none⟩ = some (.bool d) := by
          rw [hb.cell (p := ⟨p, 0, none⟩) hpl]; exact hp
        refine (idonly1_any x d p W hcw).mono ?_
        rintro e w' ⟨rfl, rfl⟩
        refine ⟨rfl, hb.os, hb.tape, hb.output, by have := hb.size; simp; omega, fun k hk => ?_⟩
        rw [← hb.block k hk]
        exact Below.heap_alloc W _ k (by have := hb.size; omega))
      (Nat.le_refl _) (by omega) hbl (bk_row hce)
    rw [List.take_length] at hcon
    refine Calls.mono hcon ?_
    rintro e w' ⟨rfl, hb⟩
    exact ⟨rfl, hH.belowSize hb⟩

/-- those that are so -/
def onlyB (d : Bool) (l : List BK) : List BK := l.filter fun x => x.dirty == d
def DelTo (es : List BK) (d : Bool) (v : Value) (w : World) (F : HL) (i j : Value) (wr : World) : Prop :=
  ∃ (k m : Nat) (cs : List BK) (H : HL), i = .int .i64 k ∧ j = .int .i64 m ∧ k < m ∧ m ≤ es.length ∧ cs.length = es.length ∧ cs.take k = onlyB d (es.take m) ∧ (∀ q (hq : q < es.length), m ≤ q → cs[q]? = some es[q]) ∧ IsBks v cs H ∧ Holds wr (H ++ F) ∧ Grew w wr
set_option maxRecDepth 20000 in
set_option maxHeartbeats 2000000 in
theorem iddel_any (d : Bool) (p : Nat) (v : Value) (es : List BK) (H Fr : HL) (w : World) (hv : IsBks v es H) (hH : Holds w (H ++ ((p, .cells #[.bool d] 4) :: Fr))) (hsm : es.length ≤ 1000000) :
    Calls Try.prog 55 #[v, .func (.func 56) #[] #[.pointer (some ⟨p, 0, none⟩)]] w (RetNew (fun v' H' => IsBks v' (onlyB d es) H') w ((p, .cells #[.bool d] 4) :: Fr)) := by
  have hpc := hH.right.hcell 0
  have HIX := Lib.hid (ididxF_any d p v es w _ hpc (hv.at_ hH) hH)
  have HV := Lib.hid hv
  obtain ⟨A, c, rfl⟩ := hv.val
  obtain ⟨n, hn⟩ : ∃ n, n = es.length := ⟨_, rfl⟩
  have HN := Lib.hid hn
  rw [← hn] at hsm HV HIX ⊢
  rcases idxD_spec d es with ⟨h1, h2⟩ | ⟨i, hi, h1, h2, h3⟩
  · rw [h1] at HIX
    have HE : Hid (onlyB d es = es) := Lib.hid (List.filter_eq_self.2 h2)
    clear hv hH hn h1 h2 hpc
    go_enter Try.func55, Try.ntmps55
    go_wp2_with fail
    refine HIX.out.mono ?_
    rintro e w' ⟨rfl, hH2, hg2⟩
    go_wp2_with fail
    go_ret
    exact ⟨_, H, rfl, by rw [HE.out]; exact HV.out, hH2, hg2⟩
  · rw [h1] at HIX
    obtain ⟨g, cap, hvv, hc1, hc2, hq0, hq1, hq2⟩ := hv.own (by omega)
    obtain ⟨e1, e3⟩ : A = some ⟨g, 0, none⟩ ∧ cap = c := by injection hvv with e1 _ e3; exact ⟨e1, e3.symm⟩
    subst e1 e3
    have HT0 : Hid (es.take i = onlyB d (es.take (i + 1))) := Lib.hid (by
      unfold onlyB
      rw [List.take_succ_eq_append_getElem hi, List.filter_append, List.filter_eq_self.2 (fun x hx => ?_), List.filter_cons_of_neg (by rw [h2]; decide), List.filter_nil, List.append_nil]
      obtain ⟨q, hq, rfl⟩ := List.mem_iff_getElem.1 hx
      rw [List.length_take] at hq
      rw [List.getElem_take]
      exact h3 q (by omega) (by omega))
    rw [← hn] at hi hc1
    unfold maxLen at hc2
    clear hv hH hn h1 h2 h3 hpc hq0 hq1 hq2 hvv
    have hi1 : ((i : Int) == -1) = false := by simp
    go_enter Try.func55, Try.ntmps55
    go_wp2_with fail
    refine HIX.out.mono ?_
    rintro e w' ⟨rfl, hH2, hg2⟩
    have hine : ¬ (i : Int) = -1 := by omega
    clear HIX
    go_wp2_with fail
    go_loopw [5, 6] (fun i j wr => DelTo es d (.slice (some ⟨g, 0, none⟩) n cap) w ((p, .cells #[.bool d] 4) :: Fr) i j wr) (fun _ j _ => n - (intOf j).toNat)
    case atStart => exact ⟨i, i + 1, es, H, rfl, by go_num, by omega, by rw [← HN.out]; omega, rfl, HT0.out, fun q hq _ => List.getElem?_eq_getElem hq, HV.out, hH2, hg2⟩
    case round =>
      clear hH2 hg2
      obtain ⟨k, m, cs, Hc, rfl, rfl, hkm, hm, hcl, hct, hcd, hcv, hHc, hgc⟩ := hrel
      rw [← HN.out] at hm hcl
      have HCV := Lib.hid hcv
      have HHC := Lib.hid hHc
      have HCL := Lib.hid hcl
      have HCT := Lib.hid hct
      have HCD := Lib.hid hcd
      obtain ⟨g', cap', hvv, hq1, hq2, hrd2, hst, hcut⟩ := hcv.own (by omega)
      obtain ⟨q1, q3⟩ := slice_inj hvv
      subst q1
      subst q3
      clear hq1 hq2 hvv hct hcd hcv
      by_cases hlt : m < n
      · have hme : m < es.length := by rw [← HN.out]; exact hlt
        have hmc : m < cs.length := by omega
        obtain ⟨hce, hfr⟩ := hrd2 wr _ hHc
        obtain ⟨d0, d1, d2⟩ := hce m hmc
        obtain ⟨c0, c1, c2⟩ := hce k (by omega)
        have z0 := hfr (k * 3) (by omega)
        have z1 := hfr (k * 3 + 1) (by omega)
        have z2 := hfr (k * 3 + 2) (by omega)
        have ex1 : cs[m] = es[m] := by
          have := HCD.out m hme (by omega)
          rw [List.getElem?_eq_getElem hmc] at this
          exact Option.some.inj this
        rw [ex1] at d0 d1 d2
        have HT2 : Hid (onlyB d (es.take (m + 1)) = onlyB d (es.take m) ++ (if es[m].dirty == d then [es[m]] else [])) := Lib.hid (by
          unfold onlyB
          rw [List.take_succ_eq_append_getElem hme, List.filter_append]
          congr 1
          by_cases h : (es[m].dirty == d) = true
          · rw [List.filter_cons_of_pos (by simpa using h), if_pos h, List.filter_nil]
          · rw [List.filter_cons_of_neg (by simpa using h), if_neg h, List.filter_nil])
        generalize es[m] = x at *
        have HSX := Lib.hid (fun (wx : World) (F : HL) (hwx : Holds wx (Hc ++ F)) => hst wx F hwx k (by omega) x)
        have HTS : Hid ((cs.set k x).take (k + 1) = cs.take k ++ [x]) := Lib.hid (by
          have hl : k < (cs.set k x).length := by rw [List.length_set]; omega
          rw [List.take_succ_eq_append_getElem hl, List.getElem_set_self, List.take_set_of_le (by omega)])
        have HKS : Hid (∀ q (hq : q < es.length), m + 1 ≤ q → (cs.set k x)[q]? = some es[q]) := Lib.hid (fun q hq hq2 => by rw [List.getElem?_set_ne (by omega)]; exact HCD.out q hq (by omega))
        have hH3 := hHc.alloc (.cells x.cells.toArray 71)
        have hpc2 := hH3.tail.right.hcell 0
        have HON := Lib.hid (idonly1_any x d p _ hpc2)
        have hg3 := hgc.alloc (.cells x.cells.toArray 71)
        clear hce hfr hst hcut ex1 hHc hpc2
        have HRD := Lib.hid hrd2
        obtain ⟨x0, x1, x2⟩ := x
        simp only [strB, BK.cells] at d0 d1 d2 HON hH3 hg3
        have a0 := hH3.hcell 0
        have a1 := hH3.hcell 1
        have a2 := hH3.hcell 2
        clear hrd2 z0 z1 z2 c0 c1 c2
        have hkm2 : k < n := by omega
        cases hxd : (x1 == d) with
        | true =>
          have hxn : (x1 != d) = false := by rw [bne, hxd]; rfl
          rw [hxn] at HON
          rw [if_pos hxd] at HT2
          clear hxd hxn
          go_wp2_with fail
          refine HON.out.mono ?_
          rintro e w5 ⟨rfl, rfl⟩
          have hH4 := hH3.alloc' (.cells #[.bool x0, .bool x1, .string ⟨x2.toArray⟩] 71)
          have hg4 := hg3.alloc (.cells #[.bool x0, .bool x1, .string ⟨x2.toArray⟩] 71)
          simp only [BK.cells, strB]
          generalize (wr.alloc (.cells #[.bool x0, .bool x1, .string ⟨x2.toArray⟩] 71)).alloc (.cells #[.bool x0, .bool x1, .string ⟨x2.toArray⟩] 71) = w5 at *
          generalize wr.heap.size = t at *
          obtain ⟨hce, hfr⟩ := HRD.out w5 _ hH4.tail
          obtain ⟨c0, c1, c2⟩ := hce k (by omega)
          have z0 := hfr (k * 3) (by omega)
          have z1 := hfr (k * 3 + 1) (by omega)
          have z2 := hfr (k * 3 + 2) (by omega)
          have b0 := hH4.hcell 0
          have b1 := hH4.hcell 1
          have b2 := hH4.hcell 2
          generalize cs[k] = u at c0 c1 c2
          obtain ⟨H7, hb7, hh7⟩ := HSX.out w5 _ hH4.tail
          have hg7 := ((hg4.setCell ⟨g, k * 3, none⟩ (.bool x0)).setCell ⟨g, k * 3 + 1, none⟩ (.bool x1)).setCell ⟨g, k * 3 + 2, none⟩ (.string ⟨x2.toArray⟩)
          have HB7 := Lib.hid hb7
          have HH7 := Lib.hid hh7
          clear HSX hb7 hh7 hce hfr HON hH3 hH4 a0 a1 a2 d0 d1 d2
          go_wp2_with fail
          go_roundw
          case rel =>
            refine ⟨k + 1, m + 1, cs.set k ⟨x0, x1, x2⟩, H7, by go_num, by go_num, by omega, by omega, by rw [List.length_set, HCL.out, HN.out], ?_, HKS.out, HB7.out, HH7.out, hg7⟩
            rw [HTS.out, HCT.out, HT2.out]
          case measure => simp [intOf] <;> omega
        | false =>
          have hxn : (x1 != d) = true := by rw [bne, hxd]; rfl
          rw [hxn] at HON
          rw [if_neg (by rw [hxd]; decide), List.append_nil] at HT2
          clear hxd hxn
          go_wp2_with fail
          refine HON.out.mono ?_
          rintro e w5 ⟨rfl, rfl⟩
          have hH4 := (hH3.alloc' (.cells #[.bool x0, .bool x1, .string ⟨x2.toArray⟩] 71)).tail
          have hg4 := hg3.alloc (.cells #[.bool x0, .bool x1, .string ⟨x2.toArray⟩] 71)
          simp only [BK.cells, strB]
          generalize (wr.alloc (.cells #[.bool x0, .bool x1, .string ⟨x2.toArray⟩] 71)).alloc (.cells #[.bool x0, .bool x1, .string ⟨x2.toArray⟩] 71) = w5 at *
          clear HSX HON hH3 a0 a1 a2 d0 d1 d2 HRD
          go_wp2_with fail
          go_roundw
          case rel => exact ⟨k, m + 1, cs, Hc, rfl, by go_num, by omega, by omega, by rw [HCL.out, HN.out], by rw [HCT.out, HT2.out], fun q hq hq2 => HCD.out q hq (by omega), HCV.out, hH4, hg4⟩
          case measure => simp [intOf] <;> omega
      · obtain rfl : m = n := by omega
        obtain ⟨wy, Hy, hcle, hbv, hHy, hgy⟩ := hcut wr _ hHc k (by omega)
        have HBV := Lib.hid hbv
        rw [HCL.out] at hcle
        have hck2 : ¬ cap = k := by omega
        have hkn : k ≤ m := by omega
        have hkcap : k ≤ cap := by omega
        have HE : Hid (onlyB d (es.take m) = onlyB d es) := Lib.hid (by rw [HN.out, List.take_length])
        clear hrd2 hst hcut hbv
        go_wp2_with fail
        go_ret
        exact ⟨_, Hy, rfl, by rw [← HE.out, ← HCT.out]; exact HBV.out, hHy, hgc.trans hgy⟩
end Go.Proofs.Ytinfbpldgobmfaa
