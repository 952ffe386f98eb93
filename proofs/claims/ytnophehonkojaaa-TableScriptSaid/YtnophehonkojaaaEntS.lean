/-
  Entries sorted and found: slices.SortFunc, slices.IndexFunc with the table's own closures (the shelf's contracts, laid at this program).
-/
import Derived.Test.YtnophehonkojaaaEnt
import Derived.Shelf.SlSortCmp.WholeK
import Derived.Shelf.SlSortCmp.NoneTotal
import Derived.Shelf.SlGeneric
namespace Go.Proofs.Ytnophehonkojaaa
def laySort_ren : Go.Shelf.Ren := ⟨fun | 6 => 30 | 15 => 40 | 14 => 39 | 28 => 50 | 29 => 51 | 20 => 42 | 21 => 43 | 22 => 44 | 23 => 45 | 24 => 46 | 25 => 47 | 26 => 48 | 27 => 49 | 46 => 52 | 47 => 53 | 48 => 54 | 49 => 55 | 50 => 56 | 57 => 57 | n => n, fun | 22 => 22 | 24 => 28 | 25 => 59 | 3 => 3 | 39 => 60 | 0 => 0 | 53 => 79 | 55 => 26 | 4 => 4 | 46 => 73 | 45 => 72 | 50 => 61 | 5 => 5 | 9 => 9 | 66 => 81 | 70 => 85 | 76 => 87 | 77 => 88 | n => n, fun | n => n⟩
theorem laySort : Go.Proofs.SlLaysF0.n6 Try.prog laySort_ren where
  mixed := by kernel_rfl
  f6 := ⟨ "slices.SortFunc[[]scullery/api.Entry,scullery/api.Entry]", by decide, Try.func30.trans (congrArg some (by kernel_rfl))⟩
  f14 := ⟨ "slices.pdqsortCmpFunc[scullery/api.Entry]", by decide, Try.func39.trans (congrArg some (by kernel_rfl))⟩
  f15 := Try.func40.trans (congrArg some (by kernel_rfl))
  f20 := ⟨ "slices.insertionSortCmpFunc[scullery/api.Entry]", by decide, Try.func42.trans (congrArg some (by kernel_rfl))⟩
  f21 := ⟨ "slices.heapSortCmpFunc[scullery/api.Entry]", by decide, Try.func43.trans (congrArg some (by kernel_rfl))⟩
  f22 := ⟨ "slices.breakPatternsCmpFunc[scullery/api.Entry]", by decide, Try.func44.trans (congrArg some (by kernel_rfl))⟩
  f23 := ⟨ "slices.choosePivotCmpFunc[scullery/api.Entry]", by decide, Try.func45.trans (congrArg some (by kernel_rfl))⟩
  f24 := ⟨ "slices.reverseRangeCmpFunc[scullery/api.Entry]", by decide, Try.func46.trans (congrArg some (by kernel_rfl))⟩
  f25 := ⟨ "slices.partialInsertionSortCmpFunc[scullery/api.Entry]", by decide, Try.func47.trans (congrArg some (by kernel_rfl))⟩
  f26 := ⟨ "slices.partitionEqualCmpFunc[scullery/api.Entry]", by decide, Try.func48.trans (congrArg some (by kernel_rfl))⟩
  f27 := ⟨ "slices.partitionCmpFunc[scullery/api.Entry]", by decide, Try.func49.trans (congrArg some (by kernel_rfl))⟩
  f28 := Try.func50.trans (congrArg some (by kernel_rfl))
  f29 := Try.func51.trans (congrArg some (by kernel_rfl))
  f46 := ⟨ "slices.siftDownCmpFunc[scullery/api.Entry]", by decide, Try.func52.trans (congrArg some (by kernel_rfl))⟩
  f47 := Try.func53.trans (congrArg some (by kernel_rfl))
  f48 := Try.func54.trans (congrArg some (by kernel_rfl))
  f49 := ⟨ "slices.medianAdjacentCmpFunc[scullery/api.Entry]", by decide, Try.func55.trans (congrArg some (by kernel_rfl))⟩
  f50 := ⟨ "slices.medianCmpFunc[scullery/api.Entry]", by decide, Try.func56.trans (congrArg some (by kernel_rfl))⟩
  f57 := ⟨ "slices.order2CmpFunc[scullery/api.Entry]", by decide, Try.func57.trans (congrArg some (by kernel_rfl))⟩
  t0 := Try.underlying0
  a0 := Try.isAgg0
  z0 := Try.sizeOf0
  v0 := Try.zeroValue0
  t3 := Try.underlying3
  a3 := Try.isAgg3
  z3 := Try.sizeOf3
  v3 := Try.zeroValue3
  t4 := Try.underlying4
  a4 := Try.isAgg4
  z4 := Try.sizeOf4
  v4 := Try.zeroValue4
  t5 := Try.underlying5
  a5 := Try.isAgg5
  z5 := Try.sizeOf5
  v5 := Try.zeroValue5
  t9 := Try.underlying9
  a9 := Try.isAgg9
  z9 := Try.sizeOf9
  v9 := Try.zeroValue9
  t22 := Try.underlying22
  a22 := Try.isAgg22
  z22 := Try.sizeOf22
  v22 := Try.zeroValue22
  t25 := Try.underlying59
  a25 := Try.isAgg59
  z25 := Try.sizeOf59
  v25 := Try.zeroValue59
  t39 := Try.underlying60
  a39 := Try.isAgg60
  z39 := Try.sizeOf60
  v39 := Try.zeroValue60
  t45 := Try.underlying72
  a45 := Try.isAgg72
  z45 := Try.sizeOf72
  v45 := Try.zeroValue72
  t46 := Try.underlying73
  a46 := Try.isAgg73
  z46 := Try.sizeOf73
  v46 := Try.zeroValue73
  t50 := Try.underlying61
  a50 := Try.isAgg61
  z50 := Try.sizeOf61
  v50 := Try.zeroValue61
  t53 := Try.underlying79
  a53 := Try.isAgg79
  z53 := Try.sizeOf79
  v53 := Try.zeroValue79
  t55 := Try.underlying26
  a55 := Try.isAgg26
  z55 := Try.sizeOf26
  v55 := Try.zeroValue26
  t66 := Try.underlying81
  a66 := Try.isAgg81
  z66 := Try.sizeOf81
  v66 := Try.zeroValue81
  t70 := Try.underlying85
  a70 := Try.isAgg85
  z70 := Try.sizeOf85
  v70 := Try.zeroValue85
  t76 := Try.underlying87
  a76 := Try.isAgg87
  z76 := Try.sizeOf87
  v76 := Try.zeroValue87
  t77 := Try.underlying88
  a77 := Try.isAgg88
  z77 := Try.sizeOf88
  v77 := Try.zeroValue88
open Go.RowKit
set_option linter.unusedSimpArgs false
set_option linter.unusedVariables false

section
variable {α : Type} [Inhabited α] (enc : α → Value)
theorem putCells_sizeG (xs : Array α) (c : Array Value) : (Go.Sort.putCells enc 0 xs c).size = c.size := by unfold Go.Sort.putCells; simp
theorem putCells_takeG (xs : List α) (c : Array Value) (h : xs.length ≤ c.size) : (Go.Sort.putCells enc 0 xs.toArray c).toList.take xs.length = xs.map enc := by
  apply List.ext_getElem
  · simp [Go.Sort.putCells]; omega
  · intro i h1 h2
    have hi : i < xs.length := by simpa using h2
    simp [Go.Sort.putCells, hi]
theorem putRow_rowG {w : World} {g : Nat} {cur : Array Value} {t : TypeId} {fz : Nat × Nat} {H : HL} (n : Nat) (os : Array Obj) (xs : Array α) (hH : Holds w ((g, .cells cur t fz) :: H)) :
    Holds (Go.Sort.grow (Go.Sort.putRow enc (Go.Sort.ahead w n) g 0 xs) os) ((g, .cells (Go.Sort.putCells enc 0 xs cur) t fz) :: H) ∧
      Grew w (Go.Sort.grow (Go.Sort.putRow enc (Go.Sort.ahead w n) g 0 xs) os) := by
  have hheap : (Go.Sort.grow (Go.Sort.putRow enc (Go.Sort.ahead w n) g 0 xs) os).heap = w.heap.modify g (Go.Sort.onCells (Go.Sort.putCells enc 0 xs)) ++ os := rfl
  refine ⟨⟨fun c => ?_, fun p hp => ?_⟩, ⟨rfl, rfl, rfl, ?_⟩⟩
  · have := hH.one c; rw [keyc_cons] at this ⊢; exact this
  · rw [hheap]
    rcases List.mem_cons.1 hp with rfl | hp
    · have hg := hH.get (List.mem_cons_self)
      have hlt := (Array.getElem?_eq_some_iff.1 hg).1
      rw [Array.getElem?_append_left (by simpa using hlt), Array.getElem?_modify, if_pos rfl, hg]
      rfl
    · have hne := Holds.apart (A := [(g, Obj.cells cur t fz)]) (B := H) (by simpa using hH) (List.mem_singleton.2 rfl) hp
      have hm := hH.mem p (List.mem_cons_of_mem _ hp)
      have hlt := (Array.getElem?_eq_some_iff.1 hm).1
      rw [Array.getElem?_append_left (by simpa using hlt), Array.getElem?_modify, if_neg hne, hm]
  · rw [hheap]; simp
end
/-- more blocks stand by -/
theorem Holds.grow {w : World} {H : HL} (h : Holds w H) (os : Array Obj) : Holds (Go.Sort.grow w os) H :=
  ⟨h.one, fun p hp => by
    have hm := h.mem p hp
    have hlt := (Array.getElem?_eq_some_iff.1 hm).1
    show (w.heap ++ os)[p.1]? = some p.2
    rw [Array.getElem?_append_left hlt, hm]⟩
theorem Grew.grow {a w : World} (h : Grew a w) (os : Array Obj) : Grew a (Go.Sort.grow w os) := ⟨h.os, h.tape, h.output, Nat.le_trans h.size (by show w.heap.size ≤ (w.heap ++ os).size; simp)⟩

theorem flatK_entC (es : List Ent) : Go.Sort.flatK Ent.cells 4 es.toArray = (entC es).toArray := by
  refine Go.Sort.ext_get! (by simp [entC_len]) fun t ht => ?_
  have ht' : t < es.toArray.size * 4 := by simpa using ht
  rw [Go.Sort.get_flatK _ _ _ _ ht']
  have hi : t / 4 < es.length := by simp at ht'; omega
  obtain ⟨e1, e2, e3, e4⟩ := entC_get es (t / 4) hi
  have h4 : t % 4 = 0 ∨ t % 4 = 1 ∨ t % 4 = 2 ∨ t % 4 = 3 := by omega
  have hx : es.toArray[t / 4]! = es[t / 4] := by rw [getElem!_pos es.toArray (t / 4) (by simpa using hi)]; rfl
  rw [hx]
  have hq : ∀ (k : Nat) (u : Value), t = t / 4 * 4 + k → (entC es)[t / 4 * 4 + k]? = some u → (entC es).toArray[t]! = u := by
    intro k u hk hu
    rw [← hk] at hu
    have := (List.getElem?_eq_some_iff.1 hu)
    rw [getElem!_pos (entC es).toArray t (by simpa using this.1)]
    simpa using this.2
  rcases h4 with h | h | h | h
  · rw [hq 0 _ (by omega) e1, h]; rfl
  · rw [hq 1 _ (by omega) e2, h]; rfl
  · rw [hq 2 _ (by omega) e3, h]; rfl
  · rw [hq 3 _ (by omega) e4, h]; rfl

/-! ### cmp.Compare, the closures -/
theorem cmpNaN_any (x : Int) (w : World) : Calls Try.prog 41 #[.int .u64 x] w fun e w' => e = .returned (.bool false) ∧ w = w' := by
  go_enter Try.func41, Try.ntmps41
  go_wp2_with fail
  go_ret
  exact ⟨ret_b (by simp), rfl⟩
def cmpI (x y : Int) : Int := if x < y then -1 else if y < x then 1 else 0
set_option maxRecDepth 20000 in
theorem cmpU64_any (x y : Int) (w : World) : Calls Try.prog 32 #[.int .u64 x, .int .u64 y] w fun e w' => e = .returned (.int .i64 (cmpI x y)) ∧ w = w' := by
  have H1 := Lib.hid (cmpNaN_any x w)
  have H2 := Lib.hid (cmpNaN_any y w)
  by_cases h1 : x < y
  · have hc := Lib.hid (show cmpI x y = -1 by unfold cmpI; rw [if_pos h1])
    go_enter Try.func32, Try.ntmps32
    go_wp2_with fail
    refine H1.out.mono ?_
    rintro e w1 ⟨rfl, rfl⟩
    go_wp2_with fail
    refine H2.out.mono ?_
    rintro e w1 ⟨rfl, rfl⟩
    go_wp2_with fail
    go_ret
    rw [hc.out]; exact ⟨rfl, rfl⟩
  · by_cases h2 : y < x
    · have hc := Lib.hid (show cmpI x y = 1 by unfold cmpI; rw [if_neg h1, if_pos h2])
      go_enter Try.func32, Try.ntmps32
      go_wp2_with fail
      refine H1.out.mono ?_
      rintro e w1 ⟨rfl, rfl⟩
      go_wp2_with fail
      refine H2.out.mono ?_
      rintro e w1 ⟨rfl, rfl⟩
      go_wp2_with fail
      go_ret
      rw [hc.out]; exact ⟨rfl, rfl⟩
    · have hc := Lib.hid (show cmpI x y = 0 by unfold cmpI; rw [if_neg h1, if_neg h2])
      go_enter Try.func32, Try.ntmps32
      go_wp2_with fail
      refine H1.out.mono ?_
      rintro e w1 ⟨rfl, rfl⟩
      go_wp2_with fail
      refine H2.out.mono ?_
      rintro e w1 ⟨rfl, rfl⟩
      go_wp2_with fail
      go_ret
      rw [hc.out]; exact ⟨rfl, rfl⟩

set_option maxRecDepth 20000 in
theorem tbless_any (x y : Ent) (W : World) : Calls Try.prog 31 #[.agg x.cells.toArray, .agg y.cells.toArray] W fun e w' => e = .returned (.int .i64 (cmpI x.addr y.addr)) ∧ ∃ q os', w' = Go.Sort.grow (W.drewN q) os' := by
  obtain ⟨x0, x1, x2, x3⟩ := x
  obtain ⟨y0, y1, y2, y3⟩ := y
  have HC := Lib.hid (fun W' => cmpU64_any x0 y0 W')
  simp only [Ent.cells]
  generalize cmpI x0 y0 = r at *
  go_enter Try.func31, Try.ntmps31
  go_wp2_with fail
  refine (HC.out _).mono ?_
  rintro e w1 ⟨rfl, rfl⟩
  go_wp2_with fail
  go_ret
  exact ⟨rfl, 0, _, by rw [Go.Sort.alloc_eq_grow, Go.Sort.alloc_eq_grow, Go.Sort.grow_grow]; rfl⟩

theorem cmpI_lt (x y : Ent) : ltOf (fun x y : Ent => cmpI x.addr y.addr) x y = decide (x.addr < y.addr) := by
  unfold ltOf cmpI
  by_cases h1 : x.addr < y.addr
  · simp [h1]
  · by_cases h2 : y.addr < x.addr <;> simp [h1, h2]
theorem swoEnt : Go.Sort.SWO (ltOf fun x y : Ent => cmpI x.addr y.addr) where
  irrefl x := by rw [cmpI_lt]; simp
  trans x y z h1 h2 := by rw [cmpI_lt] at *; simp at *; omega
  ntrans x y z h1 h2 := by rw [cmpI_lt] at *; simp at *; omega

/-- sorted by their addresses -/
abbrev Asc (l : List Ent) : Prop := l.Pairwise fun x y => x.addr ≤ y.addr
set_option maxRecDepth 20000 in
theorem sortEn_any (v : Value) (es : List Ent) (H Fr : HL) (w : World) (hv : IsEnts v es H) (hH : Holds w (H ++ Fr)) (hsm : es.length ≤ 1000000) :
    Calls Try.prog 30 #[v, .func (.func 31) #[] #[]] w (RetUpd (fun H' => ∃ es' : List Ent, es'.Perm es ∧ Asc es' ∧ IsEnts v es' H') (.tuple #[]) w Fr) := by
  unfold IsEnts at hv
  rcases hv with ⟨hl, ⟨rfl, h0, rfl⟩ | ⟨g, cap, cur, fz, rfl, hn, hc, hs, ht, hf, rfl⟩⟩
  · obtain rfl : es = [] := List.length_eq_zero_iff.1 h0
    refine Calls.mono (AnyF.slices_SortFunc_none laySort none 0 (.func (.func 31) #[] #[]) w) ?_
    rintro e w' ⟨rfl, rfl⟩
    exact ⟨rfl, [], ⟨[], List.Perm.nil, List.Pairwise.nil, IsEnts.nil⟩, hH, Grew.refl _⟩
  · have eg : ∀ args w, (callFunc 31 args).run Try.prog w = .ok (.enter 31 args) w := enters_of Try.func31 (by kernel_rfl) rfl
    have hfl := flatK_entC es
    have hHK : Go.Sort.HoldsK Ent.cells 4 w g 0 es.toArray := by
      unfold Go.Sort.HoldsK
      rw [hfl]
      intro j hj
      have hj' : j < (entC es).length := by simpa using hj
      refine ⟨?_, ?_⟩
      · rw [Nat.zero_add, hH.cell (t := 28) (cs := cur) (fz := fz) (by simp)]
        have h1 : (cur.toList.take (es.length * 4))[j]? = (entC es)[j]? := by rw [ht]
        rw [List.getElem?_take, if_pos (by rw [entC_len] at hj'; exact hj')] at h1
        rw [← Array.getElem?_toList, h1, List.getElem?_eq_getElem hj', getElem!_pos _ j hj]
        rfl
      · rw [Nat.zero_add]
        exact frozen_of_block (t := 28) (cs := cur) (fz := fz) (hH.get (by simp)) hf (by rw [entC_len] at hj'; omega)
    have hcon := AnyQ.slices_SortFunc laySort 4 Try.isAgg28 Try.sizeOf28 Ent.cells (fun _ => rfl) (fun x v hv => by simp [Ent.cells] at hv; rcases hv with rfl | rfl | rfl | rfl <;> rfl) (fun x y => cmpI x.addr y.addr) swoEnt 31 #[] g 0 cap es.toArray w eg
      (fun _ _ _ _ x y => tbless_any x y _) hHK (hH.lt (p := (g, .cells cur 28 fz)) (by simp)) (by simp; omega)
    refine Calls.mono hcon ?_
    rintro e w' ⟨rfl, d', n, os, hp, hso, rfl⟩
    unfold sortWorldK Go.Sort.putRowK
    have hds : d'.size = es.length := by have := hp.1; simpa using this
    have hperm : d'.toList.Perm es := by
      have h := hp.2.2
      simp only [List.size_toArray] at h
      rw [← hds] at h
      have h' : d'.toList.Perm (es.take d'.size) := by simpa using h
      rwa [hds, List.take_of_length_le (Nat.le_refl _)] at h'
    have hsrt : Asc d'.toList := by
      refine List.pairwise_iff_getElem.2 fun i j hi hj hij => ?_
      have h := hso i j (Nat.zero_le _) hij (by simpa [hds] using hj)
      rw [cmpI_lt] at h
      have h2 := of_decide_eq_false h
      rw [getElem!_pos d' i (by simpa using hi), getElem!_pos d' j (by simpa using hj)] at h2
      simp only [Array.getElem_toList]
      omega
    have hfd : Go.Sort.flatK Ent.cells 4 d' = (entC d'.toList).toArray := by have := flatK_entC d'.toList; simpa using this
    rw [hfd]
    obtain ⟨h1, h2⟩ := putRow_rowG id (g := g) (cur := cur) (t := 28) (fz := fz) (H := Fr) n os (entC d'.toList).toArray (by simpa using hH)
    refine ⟨rfl, [(g, .cells (Go.Sort.putCells id 0 (entC d'.toList).toArray cur) 28 fz)], ⟨d'.toList, hperm, hsrt, ?_⟩, h1, h2⟩
    have hl2 : (entC d'.toList).length = es.length * 4 := by rw [entC_len]; simp [hds]
    have e1 := putCells_takeG id (entC d'.toList) cur (by rw [hl2]; omega)
    rw [hl2] at e1
    have hl3 : d'.toList.length = es.length := by simpa using hds
    exact ⟨by rw [entC_len], .inr ⟨g, cap, _, fz, by rw [hl3], by rw [hl3]; exact hn, hc, by rw [putCells_sizeG]; omega, by rw [hl3, e1, List.map_id], by rw [putCells_sizeG]; exact hf, rfl⟩⟩

end Go.Proofs.Ytnophehonkojaaa
