/-
  Chapter 13: what every program answers that is one; a nil table.
-/
import Derived.Test.YtnophehonkojaaaTb8
namespace Go.Proofs.Ytnophehonkojaaa
open Go.RowKit
set_option linter.unusedSimpArgs false
set_option linter.unusedVariables false

theorem tbnewT_any (w : World) (Fr : HL) (hH : Holds w Fr) : Calls Try.prog 9 #[] w (RetNew (fun v H => IsTable v [] H) w Fr) := by
  refine (tbnew_any w Fr hH).mono ?_
  rintro e w' ⟨v, H, rfl, h1, h2⟩
  refine ⟨v, H, rfl, ⟨_, h1, ?_, by simp⟩, h2⟩
  rw [← spread_nil 16]
  exact spread_ok (by omega) (by omega) List.Pairwise.nil (by simp)

set_option maxRecDepth 20000 in
set_option maxHeartbeats 1000000 in
theorem awake13_any (w : World) (Fr : HL) (hH : Holds w Fr) : Calls Try.prog 8 #[] w (RetFr (.bool true) w Fr) := by
  have HN := Lib.hid (tbnewT_any w Fr hH)
  have HPT := Lib.hid (fun (v : Value) (L : List Ent) (e : Ent) (H F : HL) (w : World) h1 h2 h3 h4 => tbput_any v L e H F w h1 h2 h3 h4)
  clear hH
  go_enter Try.func8, Try.ntmps8
  go_wp2_with fail
  refine HN.out.mono ?_
  rintro e w1 ⟨v1, H1, rfl, ht1, hH1, hg1⟩
  have HT1 := Lib.hid ht1
  obtain ⟨b, rfl⟩ := ht1.ptr
  have HP1 := Lib.hid (tbput_any _ [] ⟨5, 1, true, 0⟩ H1 Fr w1 ht1 hH1 (by decide) (by decide))
  clear ht1 HN hH1
  simp only [Ent.agg] at HP1
  go_wp2_with fail
  refine HP1.out.mono ?_
  rintro e w2 ⟨rfl, H2, ht2, hH2, hg2⟩
  have hg3 := hg1.trans hg2
  rw [show putT [] ⟨5, 1, true, 0⟩ = [⟨5, 1, true, 0⟩] from rfl] at ht2
  rw [show findE (⟨5, 1, true, 0⟩ : Ent).addr [] = none from rfl]
  simp only [optE, Option.getD, Option.isSome, Ent.agg, Ent.zero]
  have hH2a := hH2.alloc' (.cells #[.int .u64 0, .int .i64 0, .bool false, .int .i64 0] 28)
  have hg4 := hg3.alloc (.cells #[.int .u64 0, .int .i64 0, .bool false, .int .i64 0] 28)
  have HP2 := Lib.hid (tbput_any _ _ ⟨5, 2, false, 0⟩ H2 Fr _ ht2 hH2a (by decide) (by decide))
  clear ht2 HP1 hH2 hH2a hg2 hg3 hg1
  simp only [Ent.agg] at HP2
  go_wp2_with fail
  refine HP2.out.mono ?_
  rintro e w3 ⟨rfl, H3, ht3, hH3, hg5⟩
  have hg6 := hg4.trans hg5
  rw [show putT [⟨5, 1, true, 0⟩] ⟨5, 2, false, 0⟩ = [⟨5, 2, false, 0⟩] from rfl] at ht3
  rw [show findE (⟨5, 2, false, 0⟩ : Ent).addr [⟨5, 1, true, 0⟩] = some ⟨5, 1, true, 0⟩ from rfl]
  simp only [optE, Option.getD, Option.isSome, Ent.agg, Ent.zero]
  have hH4 : Holds (w3.alloc (.cells #[.int .u64 5, .int .i64 1, .bool true, .int .i64 0] 28)) (H3 ++ ((w3.heap.size, (.cells #[.int .u64 5, .int .i64 1, .bool true, .int .i64 0] 28)) :: Fr)) := by
    have := Holds.swap (A := [(w3.heap.size, Obj.cells #[.int .u64 5, .int .i64 1, .bool true, .int .i64 0] 28)]) (B := H3) (C := Fr) (by simpa using hH3.alloc (.cells #[.int .u64 5, .int .i64 1, .bool true, .int .i64 0] 28))
    simpa using this
  have hg7 := hg6.alloc (.cells #[.int .u64 5, .int .i64 1, .bool true, .int .i64 0] 28)
  have HGE := Lib.hid (tbgetT_any _ _ 5 H3 _ _ ht3 hH4)
  clear HP2 hH3 hg5 hg6 hg4 hH4
  have HT3 := Lib.hid ht3
  clear ht3
  go_wp2_with fail
  refine HGE.out.mono ?_
  rintro e w4 ⟨rfl, hH5, hg8⟩
  have hg9 := hg7.trans hg8
  rw [show findE 5 [(⟨5, 2, false, 0⟩ : Ent)] = some ⟨5, 2, false, 0⟩ from rfl]
  simp only [optE, Option.getD, Option.isSome, Ent.agg, Ent.zero]
  have hH6 : Holds (w4.alloc (.cells #[.int .u64 5, .int .i64 2, .bool false, .int .i64 0] 28)) (H3 ++ ((w4.heap.size, (.cells #[.int .u64 5, .int .i64 2, .bool false, .int .i64 0] 28)) :: ((w3.heap.size, (.cells #[.int .u64 5, .int .i64 1, .bool true, .int .i64 0] 28)) :: Fr))) := by
    have := Holds.swap (A := [(w4.heap.size, Obj.cells #[.int .u64 5, .int .i64 2, .bool false, .int .i64 0] 28)]) (B := H3) (C := (w3.heap.size, (.cells #[.int .u64 5, .int .i64 1, .bool true, .int .i64 0] 28)) :: Fr) (by simpa using hH5.alloc (.cells #[.int .u64 5, .int .i64 2, .bool false, .int .i64 0] 28))
    simpa using this
  have hg10 := hg9.alloc (.cells #[.int .u64 5, .int .i64 2, .bool false, .int .i64 0] 28)
  have c1 := hH6.right.hcell 1
  have c2 := hH6.right.tail.hcell 1
  have HLE := Lib.hid (tblenT_any _ _ H3 _ _ HT3.out hH6)
  have HDI := Lib.hid (fun q => tbdirty_any _ _ H3 _ _ HT3.out (hH6.drewN q))
  have HFR := Lib.hid (fun wx hx => tbfromT_any _ _ 6 9 false H3 ((w4.heap.size, (.cells #[.int .u64 5, .int .i64 2, .bool false, .int .i64 0] 28)) :: ((w3.heap.size, (.cells #[.int .u64 5, .int .i64 1, .bool true, .int .i64 0] 28)) :: Fr)) wx HT3.out hx)
  clear HGE hH5 hg7 hg8 hg9 hH6
  go_wp2_with fail
  refine HLE.out.mono ?_
  rintro e w5 ⟨rfl, q, rfl⟩
  clear HLE
  go_wp2_with fail
  refine (HDI.out q).mono ?_
  rintro e w6 ⟨rfl, hH7, hg11⟩
  have HFR2 := Lib.hid (HFR.out w6 hH7)
  have hg12 := (hg10.drewN q).trans hg11
  rw [show dirtyN [(⟨5, 2, false, 0⟩ : Ent)] = 0 from rfl]
  clear HDI HFR hH7 hg11 hg10
  go_wp2_with fail
  refine HFR2.out.mono ?_
  rintro e w7 ⟨v7, H7, rfl, h7, hH8, hg13⟩
  rw [show fromL [(⟨5, 2, false, 0⟩ : Ent)] 6 9 false = [] from rfl] at h7
  obtain ⟨A7, c7, rfl⟩ := h7.val
  have hg14 := hg12.trans hg13
  clear HFR2 h7 hg12 hg13
  go_wp2_with fail
  go_ret
  exact ⟨rfl, hH8.right.right.tail.tail, hg14⟩
end Go.Proofs.Ytnophehonkojaaa
