/-
  Blocks of package ideal sorted: slices.SortFunc with set's own closure (the shelf's contract, laid at this program).
-/
import Derived.Test.YtinfbpldgobmfaaBkC
import Derived.Shelf.SlSortCmp.WholeK
import Derived.Shelf.SlSortCmp.NoneTotal
import Derived.Shelf.SlGeneric
namespace Go.Proofs.Ytinfbpldgobmfaa
def layIdSort_ren : Go.Shelf.Ren := ⟨fun | 6 => 65 | 15 => 75 | 14 => 76 | 28 => 88 | 29 => 89 | 20 => 90 | 21 => 91 | 22 => 92 | 23 => 93 | 24 => 94 | 25 => 95 | 26 => 96 | 27 => 97 | 46 => 104 | 47 => 99 | 48 => 100 | 49 => 105 | 50 => 106 | 57 => 108 | n => n, fun | 22 => 66 | 24 => 71 | 25 => 101 | 3 => 3 | 39 => 58 | 0 => 0 | 53 => 119 | 55 => 26 | 4 => 4 | 46 => 111 | 45 => 110 | 50 => 116 | 5 => 5 | 9 => 9 | 66 => 126 | 70 => 130 | 76 => 134 | 77 => 135 | n => n, fun | n => n⟩
theorem layIdSort : Go.Proofs.SlLaysF0.n6 Try.prog layIdSort_ren where
  mixed := by kernel_rfl
  f6 := ⟨ "slices.SortFunc[[]scullery/ideal.block,scullery/ideal.block]", by decide, Try.func65.trans (congrArg some (by kernel_rfl))⟩
  f14 := ⟨ "slices.pdqsortCmpFunc[scullery/ideal.block]", by decide, Try.func76.trans (congrArg some (by kernel_rfl))⟩
  f15 := Try.func75.trans (congrArg some (by kernel_rfl))
  f20 := ⟨ "slices.insertionSortCmpFunc[scullery/ideal.block]", by decide, Try.func90.trans (congrArg some (by kernel_rfl))⟩
  f21 := ⟨ "slices.heapSortCmpFunc[scullery/ideal.block]", by decide, Try.func91.trans (congrArg some (by kernel_rfl))⟩
  f22 := ⟨ "slices.breakPatternsCmpFunc[scullery/ideal.block]", by decide, Try.func92.trans (congrArg some (by kernel_rfl))⟩
  f23 := ⟨ "slices.choosePivotCmpFunc[scullery/ideal.block]", by decide, Try.func93.trans (congrArg some (by kernel_rfl))⟩
  f24 := ⟨ "slices.reverseRangeCmpFunc[scullery/ideal.block]", by decide, Try.func94.trans (congrArg some (by kernel_rfl))⟩
  f25 := ⟨ "slices.partialInsertionSortCmpFunc[scullery/ideal.block]", by decide, Try.func95.trans (congrArg some (by kernel_rfl))⟩
  f26 := ⟨ "slices.partitionEqualCmpFunc[scullery/ideal.block]", by decide, Try.func96.trans (congrArg some (by kernel_rfl))⟩
  f27 := ⟨ "slices.partitionCmpFunc[scullery/ideal.block]", by decide, Try.func97.trans (congrArg some (by kernel_rfl))⟩
  f28 := Try.func88.trans (congrArg some (by kernel_rfl))
  f29 := Try.func89.trans (congrArg some (by kernel_rfl))
  f46 := ⟨ "slices.siftDownCmpFunc[scullery/ideal.block]", by decide, Try.func104.trans (congrArg some (by kernel_rfl))⟩
  f47 := Try.func99.trans (congrArg some (by kernel_rfl))
  f48 := Try.func100.trans (congrArg some (by kernel_rfl))
  f49 := ⟨ "slices.medianAdjacentCmpFunc[scullery/ideal.block]", by decide, Try.func105.trans (congrArg some (by kernel_rfl))⟩
  f50 := ⟨ "slices.medianCmpFunc[scullery/ideal.block]", by decide, Try.func106.trans (congrArg some (by kernel_rfl))⟩
  f57 := ⟨ "slices.order2CmpFunc[scullery/ideal.block]", by decide, Try.func108.trans (congrArg some (by kernel_rfl))⟩
  t0 := Try.underlying0
  a0 := Try.isAgg0
  z0 := Try.sizeOf0
  v0 := Try.zeroValue0
  t3 := Try.underlying3
  a3 := Try.isAgg3
  z3 := Try.sizeOf3
  v3 := Try.zeroValue3
  t4 := Try.underlying4
  a4 := Try.isAgg4
  z4 := Try.sizeOf4
  v4 := Try.zeroValue4
  t5 := Try.underlying5
  a5 := Try.isAgg5
  z5 := Try.sizeOf5
  v5 := Try.zeroValue5
  t9 := Try.underlying9
  a9 := Try.isAgg9
  z9 := Try.sizeOf9
  v9 := Try.zeroValue9
  t22 := Try.underlying66
  a22 := Try.isAgg66
  z22 := Try.sizeOf66
  v22 := Try.zeroValue66
  t25 := Try.underlying101
  a25 := Try.isAgg101
  z25 := Try.sizeOf101
  v25 := Try.zeroValue101
  t39 := Try.underlying58
  a39 := Try.isAgg58
  z39 := Try.sizeOf58
  v39 := Try.zeroValue58
  t45 := Try.underlying110
  a45 := Try.isAgg110
  z45 := Try.sizeOf110
  v45 := Try.zeroValue110
  t46 := Try.underlying111
  a46 := Try.isAgg111
  z46 := Try.sizeOf111
  v46 := Try.zeroValue111
  t50 := Try.underlying116
  a50 := Try.isAgg116
  z50 := Try.sizeOf116
  v50 := Try.zeroValue116
  t53 := Try.underlying119
  a53 := Try.isAgg119
  z53 := Try.sizeOf119
  v53 := Try.zeroValue119
  t55 := Try.underlying26
  a55 := Try.isAgg26
  z55 := Try.sizeOf26
  v55 := Try.zeroValue26
  t66 := Try.underlying126
  a66 := Try.isAgg126
  z66 := Try.sizeOf126
  v66 := Try.zeroValue126
  t70 := Try.underlying130
  a70 := Try.isAgg130
  z70 := Try.sizeOf130
  v70 := Try.zeroValue130
  t76 := Try.underlying134
  a76 := Try.isAgg134
  z76 := Try.sizeOf134
  v76 := Try.zeroValue134
  t77 := Try.underlying135
  a77 := Try.isAgg135
  z77 := Try.sizeOf135
  v77 := Try.zeroValue135
open Go.RowKit
set_option linter.unusedSimpArgs false
set_option linter.unusedVariables false

section
variable {α : Type} [Inhabited α] (enc : α → Value)
theorem putCells_sizeB (xs : Array α) (c : Array Value) : (Go.Sort.putCells enc 0 xs c).size = c.size := by unfold Go.Sort.putCells; simp
theorem putCells_takeB (xs : List α) (c : Array Value) (h : xs.length ≤ c.size) : (Go.Sort.putCells enc 0 xs.toArray c).toList.take xs.length = xs.map enc := by
  apply List.ext_getElem
  · simp [Go.Sort.putCells]; omega
  · intro i h1 h2
    have hi : i < xs.length := by simpa using h2
    simp [Go.Sort.putCells, hi]
theorem putRow_rowB {w : World} {g : Nat} {cur : Array Value} {t : TypeId} {fz : Nat × Nat} {H : HL} (n : Nat) (os : Array Obj) (xs : Array α) (hH : Holds w ((g, .cells cur t fz) :: H)) :
    Holds (Go.Sort.grow (Go.Sort.putRow enc (Go.Sort.ahead w n) g 0 xs) os) ((g, .cells (Go.Sort.putCells enc 0 xs cur) t fz) :: H) ∧
      Grew w (Go.Sort.grow (Go.Sort.putRow enc (Go.Sort.ahead w n) g 0 xs) os) := by
  have hheap : (Go.Sort.grow (Go.Sort.putRow enc (Go.Sort.ahead w n) g 0 xs) os).heap = w.heap.modify g (Go.Sort.onCells (Go.Sort.putCells enc 0 xs)) ++ os := rfl
  refine ⟨⟨fun c => ?_, fun p hp => ?_⟩, ⟨rfl, rfl, rfl, ?_⟩⟩
  · have := hH.one c; rw [keyc_cons] at this ⊢; exact this
  · rw [hheap]
    rcases List.mem_cons.1 hp with rfl | hp
    · have hg := hH.get (List.mem_cons_self)
      have hlt := (Array.getElem?_eq_some_iff.1 hg).1
      rw [Array.getElem?_append_left (by simpa using hlt), Array.getElem?_modify, if_pos rfl, hg]
      rfl
    · have hne := Holds.apart (A := [(g, Obj.cells cur t fz)]) (B := H) (by simpa using hH) (List.mem_singleton.2 rfl) hp
      have hm := hH.mem p (List.mem_cons_of_mem _ hp)
      have hlt := (Array.getElem?_eq_some_iff.1 hm).1
      rw [Array.getElem?_append_left (by simpa using hlt), Array.getElem?_modify, if_neg hne, hm]
  · rw [hheap]; simp
end
theorem flatK_bkC (es : List BK) : Go.Sort.flatK BK.cells 3 es.toArray = (bkC es).toArray := by
  refine Go.Sort.ext_get! (by simp [bkC_len]) fun t ht => ?_
  have ht' : t < es.toArray.size * 3 := by simpa using ht
  rw [Go.Sort.get_flatK _ _ _ _ ht']
  have hi : t / 3 < es.length := by simp at ht'; omega
  obtain ⟨e1, e2, e3⟩ := bkC_get es (t / 3) hi
  have h4 : t % 3 = 0 ∨ t % 3 = 1 ∨ t % 3 = 2 := by omega
  have hx : es.toArray[t / 3]! = es[t / 3] := by rw [getElem!_pos es.toArray (t / 3) (by simpa using hi)]; rfl
  rw [hx]
  have hq : ∀ (k : Nat) (u : Value), t = t / 3 * 3 + k → (bkC es)[t / 3 * 3 + k]? = some u → (bkC es).toArray[t]! = u := by
    intro k u hk hu
    rw [← hk] at hu
    have := (List.getElem?_eq_some_iff.1 hu)
    rw [getElem!_pos (bkC es).toArray t (by simpa using this.1)]
    simpa using this.2
  rcases h4 with h | h | h
  · rw [hq 0 _ (by omega) e1, h]; rfl
  · rw [hq 1 _ (by omega) e2, h]; rfl
  · rw [hq 2 _ (by omega) e3, h]; rfl

/-! ### the closure -/
theorem growA (w : World) (os : Array Obj) (o : Obj) : (Go.Sort.grow w os).alloc o = Go.Sort.grow w (os.push o) := by
  rw [Go.Sort.alloc_eq_grow, Go.Sort.grow_grow]; congr 1
set_option maxRecDepth 20000 in
set_option maxHeartbeats 1000000 in
theorem idless_any (x y : BK) (W : World) : Calls Try.prog 66 #[.agg x.cells.toArray, .agg y.cells.toArray] W fun e w' => e = .returned (.int .i64 (cmpB x y)) ∧ ∃ q os', w' = Go.Sort.grow (W.drewN q) os' := by
  have hcmp : cmpB x y = orI (cmpN (rankB x) (rankB y)) (cmpS x.data y.data) := rfl
  have HRX := Lib.hid (fun w => idrank_any x w [] (Holds.nil_ w))
  have HRY := Lib.hid (fun w => idrank_any y w [] (Holds.nil_ w))
  have HCS := Lib.hid (fun w => cmpStr_any x.data y.data w)
  have HCN := Lib.hid (fun w => cmpInt_any (rankB x) (rankB y) w)
  have HOR := Lib.hid (fun b w h1 h2 => cmpOr_any (cmpN (rankB x) (rankB y)) (cmpS x.data y.data) b w h1 h2)
  rw [hcmp]
  clear hcmp
  generalize rankB x = rx at *
  generalize rankB y = ry at *
  obtain ⟨x0, x1, x2⟩ := x
  obtain ⟨y0, y1, y2⟩ := y
  simp only [BK.cells] at *
  generalize hsx : strB x2 = sx at *
  generalize hsy : strB y2 = sy at *
  have HXV : Hid (∃ b, sx = .string b) := Lib.hid ⟨_, hsx.symm⟩
  have HYV : Hid (∃ b, sy = .string b) := Lib.hid ⟨_, hsy.symm⟩
  clear hsx hsy
  generalize cmpS x2 y2 = s at *
  have hH := ((Holds.nil_ W).alloc (.cells #[.bool x0, .bool x1, sx] 71)).alloc (.cells #[.bool y0, .bool y1, sy] 71)
  have hg : ∃ q os', (W.alloc (.cells #[.bool x0, .bool x1, sx] 71)).alloc (.cells #[.bool y0, .bool y1, sy] 71) = Go.Sort.grow (W.drewN q) os' := ⟨0, #[(.cells #[.bool x0, .bool x1, sx] 71), (.cells #[.bool y0, .bool y1, sy] 71)], by
    rw [Go.Sort.alloc_eq_grow, Go.Sort.alloc_eq_grow, Go.Sort.grow_grow]; rfl⟩
  rw [World.size_alloc] at hH
  go_enter Try.func66, Try.ntmps66
  go_wp2_with fail
  generalize (W.alloc (.cells #[.bool x0, .bool x1, sx] 71)).alloc (.cells #[.bool y0, .bool y1, sy] 71) = w0 at *
  generalize W.heap.size = g at *
  have HS : Hid (∀ wx : World, Holds wx [(g + 1, .cells #[.bool y0, .bool y1, sy] 71), (g, .cells #[.bool x0, .bool x1, sx] 71)] → wx.cell? ⟨g, 0, none⟩ = some (.bool x0) ∧ wx.cell? ⟨g, 1, none⟩ = some (.bool x1) ∧ wx.cell? ⟨g, 2, none⟩ = some sx ∧ wx.cell? ⟨g + 1, 0, none⟩ = some (.bool y0) ∧ wx.cell? ⟨g + 1, 1, none⟩ = some (.bool y1) ∧ wx.cell? ⟨g + 1, 2, none⟩ = some sy) := Lib.hid (fun wx h =>
    ⟨h.tail.hcell 0, h.tail.hcell 1, h.tail.hcell 2, h.hcell 0, h.hcell 1, h.hcell 2⟩)
  have HST : Hid (∀ (wx : World) (k : Nat), (∃ q os', wx = Go.Sort.grow (W.drewN q) os') → ∃ q os', wx.drewN k = Go.Sort.grow (W.drewN q) os') := Lib.hid (fun wx k h => by
    obtain ⟨q, os, rfl⟩ := h
    exact ⟨q + k, os, by rw [← World.drewN_drewN]; rfl⟩)
  have HSA : Hid (∀ (wx : World) (o : Obj), (∃ q os', wx = Go.Sort.grow (W.drewN q) os') → ∃ q os', wx.alloc o = Go.Sort.grow (W.drewN q) os') := Lib.hid (fun wx o h => by
    obtain ⟨q, os, rfl⟩ := h
    exact ⟨q, os.push o, growA _ _ _⟩)
  refine Z_begin (fun wx => wx.cell? ⟨g, 0, none⟩ = some (.bool x0) ∧ wx.cell? ⟨g, 1, none⟩ = some (.bool x1) ∧ wx.cell? ⟨g, 2, none⟩ = some sx ∧ wx.cell? ⟨g + 1, 0, none⟩ = some (.bool y0) ∧ wx.cell? ⟨g + 1, 1, none⟩ = some (.bool y1) ∧ wx.cell? ⟨g + 1, 2, none⟩ = some sy) 13 (by kernel_rfl) (fun w1 hd => HS.out _ (hH.dr hd)) (fun w1 hd hs => ?_)
  have hH1 := hH.dr hd; have hG1 : ∃ q os', w1 = Go.Sort.grow (W.drewN q) os' := (by obtain ⟨k, rfl⟩ := hd; exact HST.out _ k hg); clear hd hH hg
  refine Z_takeD 0 (some 5) (v := ?_) rfl rfl (by kernel_rfl) (fun _ _ _ h => h) (by rfl) hs ?_ ?_
  rotate_left
  · intro wx hx; obtain ⟨s1, s2, s3, s4, s5, s6⟩ := hx; go_simp; try with_reducible rfl
  simp only [Act.put, List.setIfInBounds_toArray, List.set_cons_succ, List.set_cons_zero]
  refine Z_takeD 2 (some 7) (v := ?_) rfl rfl (by kernel_rfl) (fun _ _ _ h => h) (by rfl) hs ?_ ?_
  rotate_left
  · intro wx hx; obtain ⟨s1, s2, s3, s4, s5, s6⟩ := hx; go_simp; try with_reducible rfl
  simp only [Act.put, List.setIfInBounds_toArray, List.set_cons_succ, List.set_cons_zero]
  refine Z_takeD 5 (some 10) (v := ?_) rfl rfl (by kernel_rfl) (fun _ _ _ h => h) (by rfl) hs ?_ ?_
  rotate_left
  · intro wx hx; obtain ⟨s1, s2, s3, s4, s5, s6⟩ := hx; go_simp; try with_reducible rfl
  simp only [Act.put, List.setIfInBounds_toArray, List.set_cons_succ, List.set_cons_zero]
  refine Z_takeD 6 (some 11) (v := ?_) rfl rfl (by kernel_rfl) (fun _ _ _ h => h) (by rfl) hs ?_ ?_
  rotate_left
  · intro wx hx; obtain ⟨s1, s2, s3, s4, s5, s6⟩ := hx; go_simp; try with_reducible rfl
  simp only [Act.put, List.setIfInBounds_toArray, List.set_cons_succ, List.set_cons_zero]
  refine Z_takeD 7 (some 12) (v := ?_) rfl rfl (by kernel_rfl) (fun _ _ _ h => h) (by rfl) hs ?_ ?_
  rotate_left
  · intro wx hx; obtain ⟨s1, s2, s3, s4, s5, s6⟩ := hx; go_simp; try with_reducible rfl
  simp only [Act.put, List.setIfInBounds_toArray, List.set_cons_succ, List.set_cons_zero]
  refine Z_takeD 8 (some 13) (v := ?_) rfl rfl (by kernel_rfl) (fun _ _ _ h => h) (by rfl) hs ?_ ?_
  rotate_left
  · intro wx hx; obtain ⟨s1, s2, s3, s4, s5, s6⟩ := hx; go_simp; try with_reducible rfl
  simp only [Act.put, List.setIfInBounds_toArray, List.set_cons_succ, List.set_cons_zero]
  refine Z_mid 1 rfl (by kernel_rfl) (fun K hK => ?_)
  have ⟨s1, s2, s3, s4, s5, s6⟩ := hs
  go_simp; refine (HRX.out w1).mono ?_; rintro e w2 ⟨rfl, rfl⟩; have hH2 := hH1.alloc' (.cells #[.bool x0, .bool x1, sx] 71); have hG2 := HSA.out _ (.cells #[.bool x0, .bool x1, sx] 71) hG1; generalize w1.alloc (.cells #[.bool x0, .bool x1, sx] 71) = w2 at *; clear hH1 hG1   -- call w
  clear s1 s2 s3 s4 s5 s6
  refine hK _ _ (HS.out _ hH2) (fun hs2 => ?_); clear hK K hs; have hs := hs2; clear hs2
  refine Z_mid 3 rfl (by kernel_rfl) (fun K hK => ?_)
  have ⟨s1, s2, s3, s4, s5, s6⟩ := hs
  go_simp; refine (HRY.out w2).mono ?_; rintro e w3 ⟨rfl, rfl⟩; have hH3 := hH2.alloc' (.cells #[.bool y0, .bool y1, sy] 71); have hG3 := HSA.out _ (.cells #[.bool y0, .bool y1, sy] 71) hG2; generalize w2.alloc (.cells #[.bool y0, .bool y1, sy] 71) = w3 at *; clear hH2 hG2   -- call w
  clear s1 s2 s3 s4 s5 s6
  refine hK _ _ (HS.out _ hH3) (fun hs2 => ?_); clear hK K hs; have hs := hs2; clear hs2
  refine Z_mid 4 rfl (by kernel_rfl) (fun K hK => ?_)
  have ⟨s1, s2, s3, s4, s5, s6⟩ := hs
  go_simp; refine (HCN.out w3).mono ?_; rintro e w4 ⟨rfl, rfl⟩   -- call w
  clear s1 s2 s3 s4 s5 s6
  refine hK _ _ (HS.out _ hH3) (fun hs2 => ?_); clear hK K hs; have hs := hs2; clear hs2
  refine Z_mid 9 rfl (by kernel_rfl) (fun K hK => ?_)
  have ⟨s1, s2, s3, s4, s5, s6⟩ := hs
  go_simp; refine (HCS.out w3).mono ?_; rintro e w4 ⟨rfl, rfl⟩   -- call w
  clear s1 s2 s3 s4 s5 s6
  refine hK _ _ (HS.out _ hH3) (fun hs2 => ?_); clear hK K hs; have hs := hs2; clear hs2
  refine Z_mid 10 rfl (by kernel_rfl) (fun K hK => ?_)
  have ⟨s1, s2, s3, s4, s5, s6⟩ := hs
  go_simp; have hO1 := (hH3.alloc (.cells #[.int .i64 (cmpN rx ry), .int .i64 s] 3)).hcell 0; have hO2 := (hH3.alloc (.cells #[.int .i64 (cmpN rx ry), .int .i64 s] 3)).hcell 1; have hH4 := hH3.alloc' (.cells #[.int .i64 (cmpN rx ry), .int .i64 s] 3); have hG4 := HSA.out _ (.cells #[.int .i64 (cmpN rx ry), .int .i64 s] 3) hG3   -- buildSlice w
  clear s1 s2 s3 s4 s5 s6
  refine hK _ _ (HS.out _ hH4) (fun hs2 => ?_); clear hK K hs; have hs := hs2; clear hs2
  refine Z_mid 11 rfl (by kernel_rfl) (fun K hK => ?_)
  have ⟨s1, s2, s3, s4, s5, s6⟩ := hs
  go_simp; refine (HOR.out _ _ hO1 hO2).mono ?_; rintro e w5 ⟨rfl, rfl⟩   -- call w
  clear s1 s2 s3 s4 s5 s6
  refine hK _ _ (HS.out _ hH4) (fun hs2 => ?_); clear hK K hs; have hs := hs2; clear hs2
  refine Z_takeD 12 (some 4) (v := ?_) rfl rfl (by kernel_rfl) (fun _ _ _ h => h) (by rfl) hs ?_ ?_
  rotate_left
  · intro wx hx; obtain ⟨s1, s2, s3, s4, s5, s6⟩ := hx; go_simp; try with_reducible rfl
  simp only [Act.put, List.setIfInBounds_toArray, List.set_cons_succ, List.set_cons_zero]
  refine Z_done (by kernel_rfl) ?_ _
  clear hs hO1 hO2 hH4 hH3
  go_wp2_with fail
  go_ret
  exact ⟨rfl, hG4⟩
end Go.Proofs.Ytinfbpldgobmfaa
