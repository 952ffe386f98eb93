/-
  Package table: a nil table.
-/
import Derived.Test.YtnophehonkojaaaTb8
namespace Go.Proofs.Ytnophehonkojaaa
open Go.RowKit
set_option linter.unusedSimpArgs false
set_option linter.unusedVariables false

set_option maxRecDepth 20000 in
theorem tbput_nil (e : Ent) (w : World) (Fr : HL) (hH : Holds w Fr) : Calls Try.prog 10 #[.pointer none, e.agg] w (RetFr (optE none) w Fr) := by
  obtain ⟨e0, e1, e2, e3⟩ := e
  have hh := (hH.alloc' (.cells #[.int .u64 e0, .int .i64 e1, .bool e2, .int .i64 e3] 28)).alloc' (.cells #[.int .u64 0, .int .i64 0, .bool false, .int .i64 0] 28)
  have hg := ((Grew.refl w).alloc (.cells #[.int .u64 e0, .int .i64 e1, .bool e2, .int .i64 e3] 28)).alloc (.cells #[.int .u64 0, .int .i64 0, .bool false, .int .i64 0] 28)
  clear hH
  simp only [Ent.agg]
  go_enter Try.func10, Try.ntmps10
  go_wp2_with fail
  exact ⟨rfl, optE none, (by rw [results_cell_tmp rfl]; go_simp; rfl), rfl, hh, hg⟩
set_option maxRecDepth 20000 in
theorem tbget_nil (a : Int) (w : World) (Fr : HL) (hH : Holds w Fr) : Calls Try.prog 11 #[.pointer none, .int .u64 a] w (RetFr (optE none) w Fr) := by
  have hh := hH.alloc' (.cells #[.int .u64 0, .int .i64 0, .bool false, .int .i64 0] 28)
  have hg := (Grew.refl w).alloc (.cells #[.int .u64 0, .int .i64 0, .bool false, .int .i64 0] 28)
  clear hH
  go_enter Try.func11, Try.ntmps11
  go_wp2_with fail
  exact ⟨rfl, optE none, (by rw [results_cell_tmp rfl]; go_simp; rfl), rfl, hh, hg⟩
set_option maxRecDepth 20000 in
theorem tbdrop_nil (a : Int) (w : World) (Fr : HL) (hH : Holds w Fr) : Calls Try.prog 19 #[.pointer none, .int .u64 a] w (RetFr (optE none) w Fr) := by
  have hh := hH.alloc (.cells #[.int .u64 0, .int .i64 0, .bool false, .int .i64 0] 28)
  have HG := Lib.hid (tbget_nil a _ _ hh)
  clear hh hH
  go_enter Try.func19, Try.ntmps19
  go_wp2_with fail
  refine HG.out.mono ?_
  rintro e w1 ⟨rfl, hh, hg1⟩
  simp only [optE, Option.getD, Option.isSome, Ent.agg, Ent.zero]
  have hh2 := hh.alloc' (.cells #[.int .u64 0, .int .i64 0, .bool false, .int .i64 0] 28)
  have hg := ((((Grew.refl w).alloc (.cells #[.int .u64 0, .int .i64 0, .bool false, .int .i64 0] 28)).trans hg1).alloc (.cells #[.int .u64 0, .int .i64 0, .bool false, .int .i64 0] 28)).setEnt w.heap.size 0 ⟨0, 0, false, 0⟩
  obtain ⟨j0, j1, j2, j3, j4, j5, j6, j7, hfin⟩ := open4 (e := ⟨0, 0, false, 0⟩) (A := []) hh2
  have HFIN := Lib.hid (hfin ⟨0, 0, false, 0⟩)
  clear hfin hh hh2 HG hg1
  go_wp2_with fail
  exact ⟨rfl, optE none, (by rw [results_cell_tmp rfl]; go_simp; rfl), rfl, HFIN.out, hg⟩
theorem tblen_nil (w : World) : Calls Try.prog 16 #[.pointer none] w fun e w' => e = .returned (.int .i64 0) ∧ w = w' := by
  go_enter Try.func16, Try.ntmps16
  go_wp2_with fail
  go_ret
  exact ⟨rfl, rfl⟩
theorem tball_nil (w : World) : Calls Try.prog 12 #[.pointer none] w fun e w' => e = .returned (.slice none 0 0) ∧ w = w' := by
  go_enter Try.func12, Try.ntmps12
  go_wp2_with fail
  go_ret
  exact ⟨rfl, rfl⟩
theorem tbcopy_nil (w : World) : Calls Try.prog 23 #[.pointer none] w fun e w' => e = .returned (.pointer none) ∧ w = w' := by
  go_enter Try.func23, Try.ntmps23
  go_wp2_with fail
  go_ret
  exact ⟨rfl, rfl⟩
def NilTo (w : World) (o v : Value) (wr : World) : Prop := o = .slice none 0 0 ∧ v = .int .i64 0 ∧ w = wr
set_option maxRecDepth 20000 in
theorem tbfrom_nil (a n : Int) (d : Bool) (w : World) : Calls Try.prog 14 #[.pointer none, .int .u64 a, .int .i64 n, .bool d] w fun e w' => e = .returned (.slice none 0 0) ∧ w = w' := by
  have HA := Lib.hid (tball_nil w)
  go_enter Try.func14, Try.ntmps14
  go_wp2_with fail
  refine HA.out.mono ?_
  rintro e w1 ⟨rfl, rfl⟩
  go_wp2_with fail
  go_loopw [9, 15] (fun o i wr => NilTo w o i wr) (fun _ _ _ => 0)
  case atStart => exact ⟨rfl, rfl, rfl⟩
  case round =>
    obtain ⟨rfl, rfl, rfl⟩ := hrel
    go_wp2_with fail
    go_ret
    exact ⟨rfl, rfl⟩
theorem tbdirty_nil (w : World) : Calls Try.prog 24 #[.pointer none] w fun e w' => e = .returned (.int .i64 0) ∧ w = w' := by
  have HL1 := Lib.hid (tblen_nil w)
  have HF := Lib.hid (tbfrom_nil 0 0 true w)
  go_enter Try.func24, Try.ntmps24
  go_wp2_with fail
  refine HL1.out.mono ?_
  rintro e w1 ⟨rfl, rfl⟩
  go_wp2_with fail
  refine HF.out.mono ?_
  rintro e w1 ⟨rfl, rfl⟩
  go_wp2_with fail
  go_ret
  exact ⟨rfl, rfl⟩
end Go.Proofs.Ytnophehonkojaaa
