/-
  Chapter 11: an act of both yards: the same answers, the same yards.
-/
import Derived.Test.YteaeahhjkagbdaaRef11F
import Derived.Test.YteaeahhjkagbdaaRef11P
import Derived.Deep.DeepCutAuto
namespace Go.Proofs.Yteaeahhjkagbdaa
open Go.RowKit
set_option linter.unusedSimpArgs false
set_option linter.unusedVariables false

/-- what an act makes of a yard -/
def Ystep (y : List YB) (d b p : Int) (t : Bool) : List YB :=
  if d = 0 then (Yopen y b).1 else if d = 1 then (Ynext y b).1 else if d = 2 then (Yturn y b 2 3).1 else if d = 3 then (Yfree y b).1 else if d = 4 then (Yretire y b).1
  else if d = 5 then (Yneed y b p t).1 else if d = 6 then (Ydrop y b p).1 else if d = 7 then (Ywash y b p).1 else y
theorem int_ne11 {a b : Int} (h : a ≠ b) : (a == b) = false := by simpa using h
theorem yopen_nn (y : List YB) (b : Int) : 0 ≤ (Yopen y b).2 := by unfold Yopen; split <;> (try split) <;> simp
theorem ynext_nn (y : List YB) (b : Int) : 0 ≤ (Ynext y b).2.2 := by unfold Ynext; split <;> (try split) <;> (try split) <;> simp
theorem yturn_nn (y : List YB) (b s t : Int) : 0 ≤ (Yturn y b s t).2 := by unfold Yturn; split <;> (try split) <;> simp
theorem yfree_nn (y : List YB) (b : Int) : 0 ≤ (Yfree y b).2 := by unfold Yfree; split <;> (try split) <;> simp
theorem yretire_nn (y : List YB) (b : Int) : 0 ≤ (Yretire y b).2 := by unfold Yretire; split <;> (try split) <;> simp
theorem yneed_nn (y : List YB) (b p : Int) (t : Bool) : 0 ≤ (Yneed y b p t).2 := by unfold Yneed; split <;> (try split) <;> simp
theorem ydrop_nn (y : List YB) (b p : Int) : 0 ≤ (Ydrop y b p).2 := by unfold Ydrop; split <;> (try split) <;> simp
theorem ywash_nn (y : List YB) (b p : Int) : 0 ≤ (Ywash y b p).2 := by unfold Ywash; split <;> (try split) <;> simp

def Done11 (v u : Value) (y : List YB) (P : Nat) (w : World) (Fr : HL) (e : Ending) (w' : World) : Prop :=
  ∃ H1 H2 F2, e = .returned (.bool true) ∧ IsYard v y H1 ∧ IsRY u y P H2 ∧ Holds w' (H1 ++ (H2 ++ (F2 ++ Fr))) ∧ Grew w w'

set_option maxRecDepth 100000 in
set_option maxHeartbeats 4000000 in
theorem done11_any (p q : Nat) (y : List YB) (P : Nat) (H1 H2 Fr : HL) (d b0 p0 : Int) (t0 : Bool) (w : World) (hd1 : IsYard (.pointer (some ⟨p, 0, none⟩)) y H1) (hd2 : IsRY (.pointer (some ⟨q, 0, none⟩)) y P H2) (hH : Holds w (H1 ++ (H2 ++ Fr))) :
    Calls Try.prog 64 #[.pointer (some ⟨p, 0, none⟩), .pointer (some ⟨q, 0, none⟩), .agg #[.int .i64 d, .int .i64 b0, .int .i64 p0, .bool t0]] w (Done11 (.pointer (some ⟨p, 0, none⟩)) (.pointer (some ⟨q, 0, none⟩)) (Ystep y d b0 p0 t0) P w Fr) := by
  have HD1 := Lib.hid hd1
  have HD2 := Lib.hid hd2
  have hHA := hH.alloc (.cells #[.int .i64 d, .int .i64 b0, .int .i64 p0, .bool t0] 101)
  have hGA := (Grew.refl w).alloc (.cells #[.int .i64 d, .int .i64 b0, .int .i64 p0, .bool t0] 101)
  have HS := Lib.hid (fun (wx : World) (HH : HL) (h : Holds wx HH) (hm : (w.heap.size, Obj.cells #[.int .i64 d, .int .i64 b0, .int .i64 p0, .bool t0] 101) ∈ HH) =>
    show wx.cell? ⟨w.heap.size, 0, none⟩ = some (.int .i64 d) ∧ wx.cell? ⟨w.heap.size, 1, none⟩ = some (.int .i64 b0) ∧ wx.cell? ⟨w.heap.size, 2, none⟩ = some (.int .i64 p0) ∧ wx.cell? ⟨w.heap.size, 3, none⟩ = some (.bool t0) from ⟨h.cell hm 0, h.cell hm 1, h.cell hm 2, h.cell hm 3⟩)
  clear hd1 hd2 hH
  have k1 := err_eq
  have k2 := nil_eq
  have k3 := err_ne
  have k4 := nil_ne
  go_enter Try.func64, Try.ntmps64
  by_cases e0 : d = 0
  · subst e0
    have hst : Ystep y 0 b0 p0 t0 = (Yopen y b0).1 := rfl
    rw [hst]
    have HNN := Lib.hid (yopen_nn y b0)
    have HY1 := Lib.hid (fun (wx : World) (F : HL) (hx : Holds wx (H1 ++ F)) => yopen_any b0 HD1.out hx)
    have HY2 := Lib.hid (fun (wx : World) (F : HL) (hx : Holds wx (H2 ++ F)) => ryopen_any b0 HD2.out hx)
    clear hst HD1 HD2
    generalize (Yopen y b0) = rr at *
    obtain ⟨y', cc⟩ := rr
    have hcc : (cc == cc) = true := by simp
    go_upto_region 3 with fail
    generalize w.alloc (.cells #[.int .i64 0, .int .i64 b0, .int .i64 p0, .bool t0] 101) = wA at *
    generalize w.heap.size = tt at *
    refine Z_begin (fun wx => wx.cell? ⟨tt, 0, none⟩ = some (.int .i64 0) ∧ wx.cell? ⟨tt, 1, none⟩ = some (.int .i64 b0) ∧ wx.cell? ⟨tt, 2, none⟩ = some (.int .i64 p0) ∧ wx.cell? ⟨tt, 3, none⟩ = some (.bool t0)) 11 (by kernel_rfl) (fun w1 hd => HS.out _ _ (hHA.dr hd) (by simp)) (fun w1 hd hs => ?_)
    have hH3 := hHA.dr hd; have hG3 := hGA.trans (Grew.dr hd); clear hd hHA hGA
    refine Z_takeD 0 (some 15) (v := ?_) rfl rfl (by kernel_rfl) (fun _ _ _ h => h) (by rfl) hs ?_ ?_
    rotate_left
    · intro wx hx; obtain ⟨x0, x1, x2, x3⟩ := hx; go_simp; try with_reducible rfl
    simp only [Act.put, List.setIfInBounds_toArray, List.set_cons_succ, List.set_cons_zero]
    refine Z_takeD 1 (some 16) (v := ?_) rfl rfl (by kernel_rfl) (fun _ _ _ h => h) (by rfl) hs ?_ ?_
    rotate_left
    · intro wx hx; obtain ⟨x0, x1, x2, x3⟩ := hx; go_simp; try with_reducible rfl
    simp only [Act.put, List.setIfInBounds_toArray, List.set_cons_succ, List.set_cons_zero]
    refine Z_takeD 2 (some 17) (v := ?_) rfl rfl (by kernel_rfl) (fun _ _ _ h => h) (by rfl) hs ?_ ?_
    rotate_left
    · intro wx hx; obtain ⟨x0, x1, x2, x3⟩ := hx; go_simp; try with_reducible rfl
    simp only [Act.put, List.setIfInBounds_toArray, List.set_cons_succ, List.set_cons_zero]
    refine Z_takeD 5 (some 20) (v := ?_) rfl rfl (by kernel_rfl) (fun _ _ _ h => h) (by rfl) hs ?_ ?_
    rotate_left
    · intro wx hx; obtain ⟨x0, x1, x2, x3⟩ := hx; go_simp; try with_reducible rfl
    simp only [Act.put, List.setIfInBounds_toArray, List.set_cons_succ, List.set_cons_zero]
    refine Z_takeD 6 (some 21) (v := ?_) rfl rfl (by kernel_rfl) (fun _ _ _ h => h) (by rfl) hs ?_ ?_
    rotate_left
    · intro wx hx; obtain ⟨x0, x1, x2, x3⟩ := hx; go_simp; try with_reducible rfl
    simp only [Act.put, List.setIfInBounds_toArray, List.set_cons_succ, List.set_cons_zero]
    refine Z_takeD 7 (some 22) (v := ?_) rfl rfl (by kernel_rfl) (fun _ _ _ h => h) (by rfl) hs ?_ ?_
    rotate_left
    · intro wx hx; obtain ⟨x0, x1, x2, x3⟩ := hx; go_simp; try with_reducible rfl
    simp only [Act.put, List.setIfInBounds_toArray, List.set_cons_succ, List.set_cons_zero]
    refine Z_mid 3 rfl (by kernel_rfl) (fun K hK => ?_)
    have ⟨x0, x1, x2, x3⟩ := hs
    go_simp; refine (HY1.out w1 ((tt, Obj.cells #[.int .i64 0, .int .i64 b0, .int .i64 p0, .bool t0] 101) :: (H2 ++ Fr)) (hH3.sub (by (repeat' (first | refine sub_append ?_ ?_ | refine sub_cons ?_ ?_ | exact sub_nil)); all_goals first | (intro p hp; simp only [List.mem_append, List.mem_cons, hp, true_or, or_true]) | simp only [List.mem_append, List.mem_cons, true_or, or_true]) (fun b => by simp only [keyc_append, keyc_cons, keyc_nil]; omega))).mono ?_; rintro e w4 ⟨ve, H1', He, rfl, he, hd1', hH4, hg4⟩   -- call w
    clear x0 x1 x2 x3
    refine hK _ _ (HS.out _ _ hH4 (by simp)) (fun hs2 => ?_); clear hK K hs; have hs := hs2; clear hs2
    refine Z_mid 4 rfl (by kernel_rfl) (fun K hK => ?_)
    have ⟨x0, x1, x2, x3⟩ := hs
    go_simp; refine (num_any ve cc He (H1' ++ ((tt, Obj.cells #[.int .i64 0, .int .i64 b0, .int .i64 p0, .bool t0] 101) :: (H2 ++ Fr))) w4 he (hH4.sub (by (repeat' (first | refine sub_append ?_ ?_ | refine sub_cons ?_ ?_ | exact sub_nil)); all_goals first | (intro p hp; simp only [List.mem_append, List.mem_cons, hp, true_or, or_true]) | simp only [List.mem_append, List.mem_cons, true_or, or_true]) (fun b => by simp only [keyc_append, keyc_cons, keyc_nil]; omega)) HNN.out).mono ?_; rintro e w5 ⟨rfl, rfl⟩   -- call w
    clear x0 x1 x2 x3
    refine hK _ _ (hs) (fun hs2 => ?_); clear hK K hs; have hs := hs2; clear hs2
    refine Z_mid 8 rfl (by kernel_rfl) (fun K hK => ?_)
    have ⟨x0, x1, x2, x3⟩ := hs
    go_simp; refine (HY2.out w4 (H1' ++ (He ++ ([(tt, Obj.cells #[.int .i64 0, .int .i64 b0, .int .i64 p0, .bool t0] 101)] ++ Fr))) (hH4.sub (by (repeat' (first | refine sub_append ?_ ?_ | refine sub_cons ?_ ?_ | exact sub_nil)); all_goals first | (intro p hp; simp only [List.mem_append, List.mem_cons, hp, true_or, or_true]) | simp only [List.mem_append, List.mem_cons, true_or, or_true]) (fun b => by simp only [keyc_append, keyc_cons, keyc_nil]; omega))).mono ?_; rintro e w5 ⟨H2', rfl, hd2', hH5, hg5⟩   -- call w
    clear x0 x1 x2 x3
    refine hK _ _ (HS.out _ _ hH5 (by simp)) (fun hs2 => ?_); clear hK K hs; have hs := hs2; clear hs2
    refine Z_takeD 9 (some 24) (v := ?_) rfl rfl (by kernel_rfl) (fun _ _ _ h => h) (by rfl) hs ?_ ?_
    rotate_left
    · intro wx hx; obtain ⟨x0, x1, x2, x3⟩ := hx; go_simp; try with_reducible rfl
    simp only [Act.put, List.setIfInBounds_toArray, List.set_cons_succ, List.set_cons_zero]
    refine Z_takeD 10 (some 6) (v := ?_) rfl rfl (by kernel_rfl) (fun _ _ _ h => h) (by rfl) hs ?_ ?_
    rotate_left
    · intro wx hx; obtain ⟨x0, x1, x2, x3⟩ := hx; go_simp; try with_reducible rfl
    simp only [Act.put, List.setIfInBounds_toArray, List.set_cons_succ, List.set_cons_zero]
    refine Z_done (by kernel_rfl) ?_ _
    have hfin : Done11 (.pointer (some ⟨p, 0, none⟩)) (.pointer (some ⟨q, 0, none⟩)) y' P w Fr (.returned (.bool true)) w5 := ⟨H1', H2', He ++ [(tt, Obj.cells #[.int .i64 0, .int .i64 b0, .int .i64 p0, .bool t0] 101)], rfl, hd1', hd2', hH5.sub (by (repeat' (first | refine sub_append ?_ ?_ | refine sub_cons ?_ ?_ | exact sub_nil)); all_goals first | (intro p hp; simp only [List.mem_append, List.mem_cons, hp, true_or, or_true]) | simp only [List.mem_append, List.mem_cons, true_or, or_true]) (fun b => by simp only [keyc_append, keyc_cons, keyc_nil]; omega), (hG3.trans hg4).trans hg5⟩
    have HFIN := Lib.hid hfin
    clear hfin hd2' hd1' hH5 hH4 hH3 he
    go_wp2_with fail
    go_ret
    exact HFIN.out
  · have nq0 := int_ne11 e0
    by_cases e1 : d = 1
    · subst e1
      have hst : Ystep y 1 b0 p0 t0 = (Ynext y b0).1 := rfl
      rw [hst]
      have HNN := Lib.hid (ynext_nn y b0)
      have HY1 := Lib.hid (fun (wx : World) (F : HL) (hx : Holds wx (H1 ++ F)) => ynext_any b0 HD1.out hx)
      have HY2 := Lib.hid (fun (wx : World) (F : HL) (hx : Holds wx (H2 ++ F)) => rynext_any b0 HD2.out hx)
      clear hst HD1 HD2
      generalize (Ynext y b0) = rr at *
      obtain ⟨y', nn, cc⟩ := rr
      have hcc : (cc == cc) = true := by simp
      have hcn : (nn == nn) = true := by simp
      obtain ⟨x0, x1, x2, x3⟩ := HS.out _ _ hHA (by simp)
      go_wp2_with fail
      generalize w.alloc (.cells #[.int .i64 1, .int .i64 b0, .int .i64 p0, .bool t0] 101) = wA at *
      generalize w.heap.size = tt at *
      refine (HY1.out wA ((tt, Obj.cells #[.int .i64 1, .int .i64 b0, .int .i64 p0, .bool t0] 101) :: (H2 ++ Fr)) (hHA.sub (by (repeat' (first | refine sub_append ?_ ?_ | refine sub_cons ?_ ?_ | exact sub_nil)); all_goals first | (intro p hp; simp only [List.mem_append, List.mem_cons, hp, true_or, or_true]) | simp only [List.mem_append, List.mem_cons, true_or, or_true]) (fun b => by simp only [keyc_append, keyc_cons, keyc_nil]; omega))).mono ?_
      rintro e w4 ⟨ve, H1', He, rfl, he, hd1', hH4, hg4⟩
      clear x0 x1 x2 x3
      obtain ⟨x0, x1, x2, x3⟩ := HS.out _ _ hH4 (by simp)
      have HE := Lib.hid he; clear he
      go_wp2_with fail
      refine (HY2.out w4 (H1' ++ (He ++ ([(tt, Obj.cells #[.int .i64 1, .int .i64 b0, .int .i64 p0, .bool t0] 101)] ++ Fr))) (hH4.sub (by (repeat' (first | refine sub_append ?_ ?_ | refine sub_cons ?_ ?_ | exact sub_nil)); all_goals first | (intro p hp; simp only [List.mem_append, List.mem_cons, hp, true_or, or_true]) | simp only [List.mem_append, List.mem_cons, true_or, or_true]) (fun b => by simp only [keyc_append, keyc_cons, keyc_nil]; omega))).mono ?_
      rintro e w5 ⟨H2', rfl, hd2', hH5, hg5⟩
      go_wp2_with fail
      refine (num_any ve cc He (H2' ++ (H1' ++ ([(tt, Obj.cells #[.int .i64 1, .int .i64 b0, .int .i64 p0, .bool t0] 101)] ++ Fr))) w5 HE.out (hH5.sub (by (repeat' (first | refine sub_append ?_ ?_ | refine sub_cons ?_ ?_ | exact sub_nil)); all_goals first | (intro p hp; simp only [List.mem_append, List.mem_cons, hp, true_or, or_true]) | simp only [List.mem_append, List.mem_cons, true_or, or_true]) (fun b => by simp only [keyc_append, keyc_cons, keyc_nil]; omega)) HNN.out).mono ?_
      rintro e wx ⟨rfl, rfl⟩
      have hfin : Done11 (.pointer (some ⟨p, 0, none⟩)) (.pointer (some ⟨q, 0, none⟩)) y' P w Fr (.returned (.bool true)) w5 := ⟨H1', H2', He ++ [(tt, Obj.cells #[.int .i64 1, .int .i64 b0, .int .i64 p0, .bool t0] 101)], rfl, hd1', hd2', hH5.sub (by (repeat' (first | refine sub_append ?_ ?_ | refine sub_cons ?_ ?_ | exact sub_nil)); all_goals first | (intro p hp; simp only [List.mem_append, List.mem_cons, hp, true_or, or_true]) | simp only [List.mem_append, List.mem_cons, true_or, or_true]) (fun b => by simp only [keyc_append, keyc_cons, keyc_nil]; omega), (hGA.trans hg4).trans hg5⟩
      have HFIN := Lib.hid hfin
      clear hfin hd2' hd1' hH5 hH4 hHA hGA hg4 hg5
      go_wp2_with fail
      go_ret
      exact HFIN.out
    · have nq1 := int_ne11 e1
      by_cases e2 : d = 2
      · subst e2
        have hst : Ystep y 2 b0 p0 t0 = (Yturn y b0 2 3).1 := rfl
        rw [hst]
        have HNN := Lib.hid (yturn_nn y b0 2 3)
        have HY1 := Lib.hid (fun (wx : World) (F : HL) (hx : Holds wx (H1 ++ F)) => yseal_any b0 HD1.out hx)
        have HY2 := Lib.hid (fun (wx : World) (F : HL) (hx : Holds wx (H2 ++ F)) => ryseal_any b0 HD2.out hx)
        clear hst HD1 HD2
        generalize (Yturn y b0 2 3) = rr at *
        obtain ⟨y', cc⟩ := rr
        have hcc : (cc == cc) = true := by simp
        go_upto_region 9 with fail
        generalize w.alloc (.cells #[.int .i64 2, .int .i64 b0, .int .i64 p0, .bool t0] 101) = wA at *
        generalize w.heap.size = tt at *
        refine Z_begin (fun wx => wx.cell? ⟨tt, 0, none⟩ = some (.int .i64 2) ∧ wx.cell? ⟨tt, 1, none⟩ = some (.int .i64 b0) ∧ wx.cell? ⟨tt, 2, none⟩ = some (.int .i64 p0) ∧ wx.cell? ⟨tt, 3, none⟩ = some (.bool t0)) 11 (by kernel_rfl) (fun w1 hd => HS.out _ _ (hHA.dr hd) (by simp)) (fun w1 hd hs => ?_)
        have hH3 := hHA.dr hd; have hG3 := hGA.trans (Grew.dr hd); clear hd hHA hGA
        refine Z_takeD 0 (some 52) (v := ?_) rfl rfl (by kernel_rfl) (fun _ _ _ h => h) (by rfl) hs ?_ ?_
        rotate_left
        · intro wx hx; obtain ⟨x0, x1, x2, x3⟩ := hx; go_simp; try with_reducible rfl
        simp only [Act.put, List.setIfInBounds_toArray, List.set_cons_succ, List.set_cons_zero]
        refine Z_takeD 1 (some 53) (v := ?_) rfl rfl (by kernel_rfl) (fun _ _ _ h => h) (by rfl) hs ?_ ?_
        rotate_left
        · intro wx hx; obtain ⟨x0, x1, x2, x3⟩ := hx; go_simp; try with_reducible rfl
        simp only [Act.put, List.setIfInBounds_toArray, List.set_cons_succ, List.set_cons_zero]
        refine Z_takeD 2 (some 54) (v := ?_) rfl rfl (by kernel_rfl) (fun _ _ _ h => h) (by rfl) hs ?_ ?_
        rotate_left
        · intro wx hx; obtain ⟨x0, x1, x2, x3⟩ := hx; go_simp; try with_reducible rfl
        simp only [Act.put, List.setIfInBounds_toArray, List.set_cons_succ, List.set_cons_zero]
        refine Z_takeD 5 (some 57) (v := ?_) rfl rfl (by kernel_rfl) (fun _ _ _ h => h) (by rfl) hs ?_ ?_
        rotate_left
        · intro wx hx; obtain ⟨x0, x1, x2, x3⟩ := hx; go_simp; try with_reducible rfl
        simp only [Act.put, List.setIfInBounds_toArray, List.set_cons_succ, List.set_cons_zero]
        refine Z_takeD 6 (some 58) (v := ?_) rfl rfl (by kernel_rfl) (fun _ _ _ h => h) (by rfl) hs ?_ ?_
        rotate_left
        · intro wx hx; obtain ⟨x0, x1, x2, x3⟩ := hx; go_simp; try with_reducible rfl
        simp only [Act.put, List.setIfInBounds_toArray, List.set_cons_succ, List.set_cons_zero]
        refine Z_takeD 7 (some 59) (v := ?_) rfl rfl (by kernel_rfl) (fun _ _ _ h => h) (by rfl) hs ?_ ?_
        rotate_left
        · intro wx hx; obtain ⟨x0, x1, x2, x3⟩ := hx; go_simp; try with_reducible rfl
        simp only [Act.put, List.setIfInBounds_toArray, List.set_cons_succ, List.set_cons_zero]
        refine Z_mid 3 rfl (by kernel_rfl) (fun K hK => ?_)
        have ⟨x0, x1, x2, x3⟩ := hs
        go_simp; refine (HY1.out w1 ((tt, Obj.cells #[.int .i64 2, .int .i64 b0, .int .i64 p0, .bool t0] 101) :: (H2 ++ Fr)) (hH3.sub (by (repeat' (first | refine sub_append ?_ ?_ | refine sub_cons ?_ ?_ | exact sub_nil)); all_goals first | (intro p hp; simp only [List.mem_append, List.mem_cons, hp, true_or, or_true]) | simp only [List.mem_append, List.mem_cons, true_or, or_true]) (fun b => by simp only [keyc_append, keyc_cons, keyc_nil]; omega))).mono ?_; rintro e w4 ⟨ve, H1', He, rfl, he, hd1', hH4, hg4⟩   -- call w
        clear x0 x1 x2 x3
        refine hK _ _ (HS.out _ _ hH4 (by simp)) (fun hs2 => ?_); clear hK K hs; have hs := hs2; clear hs2
        refine Z_mid 4 rfl (by kernel_rfl) (fun K hK => ?_)
        have ⟨x0, x1, x2, x3⟩ := hs
        go_simp; refine (num_any ve cc He (H1' ++ ((tt, Obj.cells #[.int .i64 2, .int .i64 b0, .int .i64 p0, .bool t0] 101) :: (H2 ++ Fr))) w4 he (hH4.sub (by (repeat' (first | refine sub_append ?_ ?_ | refine sub_cons ?_ ?_ | exact sub_nil)); all_goals first | (intro p hp; simp only [List.mem_append, List.mem_cons, hp, true_or, or_true]) | simp only [List.mem_append, List.mem_cons, true_or, or_true]) (fun b => by simp only [keyc_append, keyc_cons, keyc_nil]; omega)) HNN.out).mono ?_; rintro e w5 ⟨rfl, rfl⟩   -- call w
        clear x0 x1 x2 x3
        refine hK _ _ (hs) (fun hs2 => ?_); clear hK K hs; have hs := hs2; clear hs2
        refine Z_mid 8 rfl (by kernel_rfl) (fun K hK => ?_)
        have ⟨x0, x1, x2, x3⟩ := hs
        go_simp; refine (HY2.out w4 (H1' ++ (He ++ ([(tt, Obj.cells #[.int .i64 2, .int .i64 b0, .int .i64 p0, .bool t0] 101)] ++ Fr))) (hH4.sub (by (repeat' (first | refine sub_append ?_ ?_ | refine sub_cons ?_ ?_ | exact sub_nil)); all_goals first | (intro p hp; simp only [List.mem_append, List.mem_cons, hp, true_or, or_true]) | simp only [List.mem_append, List.mem_cons, true_or, or_true]) (fun b => by simp only [keyc_append, keyc_cons, keyc_nil]; omega))).mono ?_; rintro e w5 ⟨H2', rfl, hd2', hH5, hg5⟩   -- call w
        clear x0 x1 x2 x3
        refine hK _ _ (HS.out _ _ hH5 (by simp)) (fun hs2 => ?_); clear hK K hs; have hs := hs2; clear hs2
        refine Z_takeD 9 (some 61) (v := ?_) rfl rfl (by kernel_rfl) (fun _ _ _ h => h) (by rfl) hs ?_ ?_
        rotate_left
        · intro wx hx; obtain ⟨x0, x1, x2, x3⟩ := hx; go_simp; try with_reducible rfl
        simp only [Act.put, List.setIfInBounds_toArray, List.set_cons_succ, List.set_cons_zero]
        refine Z_takeD 10 (some 6) (v := ?_) rfl rfl (by kernel_rfl) (fun _ _ _ h => h) (by rfl) hs ?_ ?_
        rotate_left
        · intro wx hx; obtain ⟨x0, x1, x2, x3⟩ := hx; go_simp; try with_reducible rfl
        simp only [Act.put, List.setIfInBounds_toArray, List.set_cons_succ, List.set_cons_zero]
        refine Z_done (by kernel_rfl) ?_ _
        have hfin : Done11 (.pointer (some ⟨p, 0, none⟩)) (.pointer (some ⟨q, 0, none⟩)) y' P w Fr (.returned (.bool true)) w5 := ⟨H1', H2', He ++ [(tt, Obj.cells #[.int .i64 2, .int .i64 b0, .int .i64 p0, .bool t0] 101)], rfl, hd1', hd2', hH5.sub (by (repeat' (first | refine sub_append ?_ ?_ | refine sub_cons ?_ ?_ | exact sub_nil)); all_goals first | (intro p hp; simp only [List.mem_append, List.mem_cons, hp, true_or, or_true]) | simp only [List.mem_append, List.mem_cons, true_or, or_true]) (fun b => by simp only [keyc_append, keyc_cons, keyc_nil]; omega), (hG3.trans hg4).trans hg5⟩
        have HFIN := Lib.hid hfin
        clear hfin hd2' hd1' hH5 hH4 hH3 he
        go_wp2_with fail
        go_ret
        exact HFIN.out
      · have nq2 := int_ne11 e2
        by_cases e3 : d = 3
        · subst e3
          have hst : Ystep y 3 b0 p0 t0 = (Yfree y b0).1 := rfl
          rw [hst]
          have HNN := Lib.hid (yfree_nn y b0)
          have HY1 := Lib.hid (fun (wx : World) (F : HL) (hx : Holds wx (H1 ++ F)) => yfree_any b0 HD1.out hx)
          have HY2 := Lib.hid (fun (wx : World) (F : HL) (hx : Holds wx (H2 ++ F)) => ryfree_any b0 HD2.out hx)
          clear hst HD1 HD2
          generalize (Yfree y b0) = rr at *
          obtain ⟨y', cc⟩ := rr
          have hcc : (cc == cc) = true := by simp
          go_upto_region 11 with fail
          generalize w.alloc (.cells #[.int .i64 3, .int .i64 b0, .int .i64 p0, .bool t0] 101) = wA at *
          generalize w.heap.size = tt at *
          refine Z_begin (fun wx => wx.cell? ⟨tt, 0, none⟩ = some (.int .i64 3) ∧ wx.cell? ⟨tt, 1, none⟩ = some (.int .i64 b0) ∧ wx.cell? ⟨tt, 2, none⟩ = some (.int .i64 p0) ∧ wx.cell? ⟨tt, 3, none⟩ = some (.bool t0)) 11 (by kernel_rfl) (fun w1 hd => HS.out _ _ (hHA.dr hd) (by simp)) (fun w1 hd hs => ?_)
          have hH3 := hHA.dr hd; have hG3 := hGA.trans (Grew.dr hd); clear hd hHA hGA
          refine Z_takeD 0 (some 64) (v := ?_) rfl rfl (by kernel_rfl) (fun _ _ _ h => h) (by rfl) hs ?_ ?_
          rotate_left
          · intro wx hx; obtain ⟨x0, x1, x2, x3⟩ := hx; go_simp; try with_reducible rfl
          simp only [Act.put, List.setIfInBounds_toArray, List.set_cons_succ, List.set_cons_zero]
          refine Z_takeD 1 (some 65) (v := ?_) rfl rfl (by kernel_rfl) (fun _ _ _ h => h) (by rfl) hs ?_ ?_
          rotate_left
          · intro wx hx; obtain ⟨x0, x1, x2, x3⟩ := hx; go_simp; try with_reducible rfl
          simp only [Act.put, List.setIfInBounds_toArray, List.set_cons_succ, List.set_cons_zero]
          refine Z_takeD 2 (some 66) (v := ?_) rfl rfl (by kernel_rfl) (fun _ _ _ h => h) (by rfl) hs ?_ ?_
          rotate_left
          · intro wx hx; obtain ⟨x0, x1, x2, x3⟩ := hx; go_simp; try with_reducible rfl
          simp only [Act.put, List.setIfInBounds_toArray, List.set_cons_succ, List.set_cons_zero]
          refine Z_takeD 5 (some 69) (v := ?_) rfl rfl (by kernel_rfl) (fun _ _ _ h => h) (by rfl) hs ?_ ?_
          rotate_left
          · intro wx hx; obtain ⟨x0, x1, x2, x3⟩ := hx; go_simp; try with_reducible rfl
          simp only [Act.put, List.setIfInBounds_toArray, List.set_cons_succ, List.set_cons_zero]
          refine Z_takeD 6 (some 70) (v := ?_) rfl rfl (by kernel_rfl) (fun _ _ _ h => h) (by rfl) hs ?_ ?_
          rotate_left
          · intro wx hx; obtain ⟨x0, x1, x2, x3⟩ := hx; go_simp; try with_reducible rfl
          simp only [Act.put, List.setIfInBounds_toArray, List.set_cons_succ, List.set_cons_zero]
          refine Z_takeD 7 (some 71) (v := ?_) rfl rfl (by kernel_rfl) (fun _ _ _ h => h) (by rfl) hs ?_ ?_
          rotate_left
          · intro wx hx; obtain ⟨x0, x1, x2, x3⟩ := hx; go_simp; try with_reducible rfl
          simp only [Act.put, List.setIfInBounds_toArray, List.set_cons_succ, List.set_cons_zero]
          refine Z_mid 3 rfl (by kernel_rfl) (fun K hK => ?_)
          have ⟨x0, x1, x2, x3⟩ := hs
          go_simp; refine (HY1.out w1 ((tt, Obj.cells #[.int .i64 3, .int .i64 b0, .int .i64 p0, .bool t0] 101) :: (H2 ++ Fr)) (hH3.sub (by (repeat' (first | refine sub_append ?_ ?_ | refine sub_cons ?_ ?_ | exact sub_nil)); all_goals first | (intro p hp; simp only [List.mem_append, List.mem_cons, hp, true_or, or_true]) | simp only [List.mem_append, List.mem_cons, true_or, or_true]) (fun b => by simp only [keyc_append, keyc_cons, keyc_nil]; omega))).mono ?_; rintro e w4 ⟨ve, H1', He, rfl, he, hd1', hH4, hg4⟩   -- call w
          clear x0 x1 x2 x3
          refine hK _ _ (HS.out _ _ hH4 (by simp)) (fun hs2 => ?_); clear hK K hs; have hs := hs2; clear hs2
          refine Z_mid 4 rfl (by kernel_rfl) (fun K hK => ?_)
          have ⟨x0, x1, x2, x3⟩ := hs
          go_simp; refine (num_any ve cc He (H1' ++ ((tt, Obj.cells #[.int .i64 3, .int .i64 b0, .int .i64 p0, .bool t0] 101) :: (H2 ++ Fr))) w4 he (hH4.sub (by (repeat' (first | refine sub_append ?_ ?_ | refine sub_cons ?_ ?_ | exact sub_nil)); all_goals first | (intro p hp; simp only [List.mem_append, List.mem_cons, hp, true_or, or_true]) | simp only [List.mem_append, List.mem_cons, true_or, or_true]) (fun b => by simp only [keyc_append, keyc_cons, keyc_nil]; omega)) HNN.out).mono ?_; rintro e w5 ⟨rfl, rfl⟩   -- call w
          clear x0 x1 x2 x3
          refine hK _ _ (hs) (fun hs2 => ?_); clear hK K hs; have hs := hs2; clear hs2
          refine Z_mid 8 rfl (by kernel_rfl) (fun K hK => ?_)
          have ⟨x0, x1, x2, x3⟩ := hs
          go_simp; refine (HY2.out w4 (H1' ++ (He ++ ([(tt, Obj.cells #[.int .i64 3, .int .i64 b0, .int .i64 p0, .bool t0] 101)] ++ Fr))) (hH4.sub (by (repeat' (first | refine sub_append ?_ ?_ | refine sub_cons ?_ ?_ | exact sub_nil)); all_goals first | (intro p hp; simp only [List.mem_append, List.mem_cons, hp, true_or, or_true]) | simp only [List.mem_append, List.mem_cons, true_or, or_true]) (fun b => by simp only [keyc_append, keyc_cons, keyc_nil]; omega))).mono ?_; rintro e w5 ⟨H2', rfl, hd2', hH5, hg5⟩   -- call w
          clear x0 x1 x2 x3
          refine hK _ _ (HS.out _ _ hH5 (by simp)) (fun hs2 => ?_); clear hK K hs; have hs := hs2; clear hs2
          refine Z_takeD 9 (some 73) (v := ?_) rfl rfl (by kernel_rfl) (fun _ _ _ h => h) (by rfl) hs ?_ ?_
          rotate_left
          · intro wx hx; obtain ⟨x0, x1, x2, x3⟩ := hx; go_simp; try with_reducible rfl
          simp only [Act.put, List.setIfInBounds_toArray, List.set_cons_succ, List.set_cons_zero]
          refine Z_takeD 10 (some 6) (v := ?_) rfl rfl (by kernel_rfl) (fun _ _ _ h => h) (by rfl) hs ?_ ?_
          rotate_left
          · intro wx hx; obtain ⟨x0, x1, x2, x3⟩ := hx; go_simp; try with_reducible rfl
          simp only [Act.put, List.setIfInBounds_toArray, List.set_cons_succ, List.set_cons_zero]
          refine Z_done (by kernel_rfl) ?_ _
          have hfin : Done11 (.pointer (some ⟨p, 0, none⟩)) (.pointer (some ⟨q, 0, none⟩)) y' P w Fr (.returned (.bool true)) w5 := ⟨H1', H2', He ++ [(tt, Obj.cells #[.int .i64 3, .int .i64 b0, .int .i64 p0, .bool t0] 101)], rfl, hd1', hd2', hH5.sub (by (repeat' (first | refine sub_append ?_ ?_ | refine sub_cons ?_ ?_ | exact sub_nil)); all_goals first | (intro p hp; simp only [List.mem_append, List.mem_cons, hp, true_or, or_true]) | simp only [List.mem_append, List.mem_cons, true_or, or_true]) (fun b => by simp only [keyc_append, keyc_cons, keyc_nil]; omega), (hG3.trans hg4).trans hg5⟩
          have HFIN := Lib.hid hfin
          clear hfin hd2' hd1' hH5 hH4 hH3 he
          go_wp2_with fail
          go_ret
          exact HFIN.out
        · have nq3 := int_ne11 e3
          by_cases e4 : d = 4
          · subst e4
            have hst : Ystep y 4 b0 p0 t0 = (Yretire y b0).1 := rfl
            rw [hst]
            have HNN := Lib.hid (yretire_nn y b0)
            have HY1 := Lib.hid (fun (wx : World) (F : HL) (hx : Holds wx (H1 ++ F)) => yretire_any b0 HD1.out hx)
            have HY2 := Lib.hid (fun (wx : World) (F : HL) (hx : Holds wx (H2 ++ F)) => ryretire_any b0 HD2.out hx)
            clear hst HD1 HD2
            generalize (Yretire y b0) = rr at *
            obtain ⟨y', cc⟩ := rr
            have hcc : (cc == cc) = true := by simp
            go_upto_region 13 with fail
            generalize w.alloc (.cells #[.int .i64 4, .int .i64 b0, .int .i64 p0, .bool t0] 101) = wA at *
            generalize w.heap.size = tt at *
            refine Z_begin (fun wx => wx.cell? ⟨tt, 0, none⟩ = some (.int .i64 4) ∧ wx.cell? ⟨tt, 1, none⟩ = some (.int .i64 b0) ∧ wx.cell? ⟨tt, 2, none⟩ = some (.int .i64 p0) ∧ wx.cell? ⟨tt, 3, none⟩ = some (.bool t0)) 11 (by kernel_rfl) (fun w1 hd => HS.out _ _ (hHA.dr hd) (by simp)) (fun w1 hd hs => ?_)
            have hH3 := hHA.dr hd; have hG3 := hGA.trans (Grew.dr hd); clear hd hHA hGA
            refine Z_takeD 0 (some 76) (v := ?_) rfl rfl (by kernel_rfl) (fun _ _ _ h => h) (by rfl) hs ?_ ?_
            rotate_left
            · intro wx hx; obtain ⟨x0, x1, x2, x3⟩ := hx; go_simp; try with_reducible rfl
            simp only [Act.put, List.setIfInBounds_toArray, List.set_cons_succ, List.set_cons_zero]
            refine Z_takeD 1 (some 77) (v := ?_) rfl rfl (by kernel_rfl) (fun _ _ _ h => h) (by rfl) hs ?_ ?_
            rotate_left
            · intro wx hx; obtain ⟨x0, x1, x2, x3⟩ := hx; go_simp; try with_reducible rfl
            simp only [Act.put, List.setIfInBounds_toArray, List.set_cons_succ, List.set_cons_zero]
            refine Z_takeD 2 (some 78) (v := ?_) rfl rfl (by kernel_rfl) (fun _ _ _ h => h) (by rfl) hs ?_ ?_
            rotate_left
            · intro wx hx; obtain ⟨x0, x1, x2, x3⟩ := hx; go_simp; try with_reducible rfl
            simp only [Act.put, List.setIfInBounds_toArray, List.set_cons_succ, List.set_cons_zero]
            refine Z_takeD 5 (some 81) (v := ?_) rfl rfl (by kernel_rfl) (fun _ _ _ h => h) (by rfl) hs ?_ ?_
            rotate_left
            · intro wx hx; obtain ⟨x0, x1, x2, x3⟩ := hx; go_simp; try with_reducible rfl
            simp only [Act.put, List.setIfInBounds_toArray, List.set_cons_succ, List.set_cons_zero]
            refine Z_takeD 6 (some 82) (v := ?_) rfl rfl (by kernel_rfl) (fun _ _ _ h => h) (by rfl) hs ?_ ?_
            rotate_left
            · intro wx hx; obtain ⟨x0, x1, x2, x3⟩ := hx; go_simp; try with_reducible rfl
            simp only [Act.put, List.setIfInBounds_toArray, List.set_cons_succ, List.set_cons_zero]
            refine Z_takeD 7 (some 83) (v := ?_) rfl rfl (by kernel_rfl) (fun _ _ _ h => h) (by rfl) hs ?_ ?_
            rotate_left
            · intro wx hx; obtain ⟨x0, x1, x2, x3⟩ := hx; go_simp; try with_reducible rfl
            simp only [Act.put, List.setIfInBounds_toArray, List.set_cons_succ, List.set_cons_zero]
            refine Z_mid 3 rfl (by kernel_rfl) (fun K hK => ?_)
            have ⟨x0, x1, x2, x3⟩ := hs
            go_simp; refine (HY1.out w1 ((tt, Obj.cells #[.int .i64 4, .int .i64 b0, .int .i64 p0, .bool t0] 101) :: (H2 ++ Fr)) (hH3.sub (by (repeat' (first | refine sub_append ?_ ?_ | refine sub_cons ?_ ?_ | exact sub_nil)); all_goals first | (intro p hp; simp only [List.mem_append, List.mem_cons, hp, true_or, or_true]) | simp only [List.mem_append, List.mem_cons, true_or, or_true]) (fun b => by simp only [keyc_append, keyc_cons, keyc_nil]; omega))).mono ?_; rintro e w4 ⟨ve, H1', He, rfl, he, hd1', hH4, hg4⟩   -- call w
            clear x0 x1 x2 x3
            refine hK _ _ (HS.out _ _ hH4 (by simp)) (fun hs2 => ?_); clear hK K hs; have hs := hs2; clear hs2
            refine Z_mid 4 rfl (by kernel_rfl) (fun K hK => ?_)
            have ⟨x0, x1, x2, x3⟩ := hs
            go_simp; refine (num_any ve cc He (H1' ++ ((tt, Obj.cells #[.int .i64 4, .int .i64 b0, .int .i64 p0, .bool t0] 101) :: (H2 ++ Fr))) w4 he (hH4.sub (by (repeat' (first | refine sub_append ?_ ?_ | refine sub_cons ?_ ?_ | exact sub_nil)); all_goals first | (intro p hp; simp only [List.mem_append, List.mem_cons, hp, true_or, or_true]) | simp only [List.mem_append, List.mem_cons, true_or, or_true]) (fun b => by simp only [keyc_append, keyc_cons, keyc_nil]; omega)) HNN.out).mono ?_; rintro e w5 ⟨rfl, rfl⟩   -- call w
            clear x0 x1 x2 x3
            refine hK _ _ (hs) (fun hs2 => ?_); clear hK K hs; have hs := hs2; clear hs2
            refine Z_mid 8 rfl (by kernel_rfl) (fun K hK => ?_)
            have ⟨x0, x1, x2, x3⟩ := hs
            go_simp; refine (HY2.out w4 (H1' ++ (He ++ ([(tt, Obj.cells #[.int .i64 4, .int .i64 b0, .int .i64 p0, .bool t0] 101)] ++ Fr))) (hH4.sub (by (repeat' (first | refine sub_append ?_ ?_ | refine sub_cons ?_ ?_ | exact sub_nil)); all_goals first | (intro p hp; simp only [List.mem_append, List.mem_cons, hp, true_or, or_true]) | simp only [List.mem_append, List.mem_cons, true_or, or_true]) (fun b => by simp only [keyc_append, keyc_cons, keyc_nil]; omega))).mono ?_; rintro e w5 ⟨H2', rfl, hd2', hH5, hg5⟩   -- call w
            clear x0 x1 x2 x3
            refine hK _ _ (HS.out _ _ hH5 (by simp)) (fun hs2 => ?_); clear hK K hs; have hs := hs2; clear hs2
            refine Z_takeD 9 (some 85) (v := ?_) rfl rfl (by kernel_rfl) (fun _ _ _ h => h) (by rfl) hs ?_ ?_
            rotate_left
            · intro wx hx; obtain ⟨x0, x1, x2, x3⟩ := hx; go_simp; try with_reducible rfl
            simp only [Act.put, List.setIfInBounds_toArray, List.set_cons_succ, List.set_cons_zero]
            refine Z_takeD 10 (some 6) (v := ?_) rfl rfl (by kernel_rfl) (fun _ _ _ h => h) (by rfl) hs ?_ ?_
            rotate_left
            · intro wx hx; obtain ⟨x0, x1, x2, x3⟩ := hx; go_simp; try with_reducible rfl
            simp only [Act.put, List.setIfInBounds_toArray, List.set_cons_succ, List.set_cons_zero]
            refine Z_done (by kernel_rfl) ?_ _
            have hfin : Done11 (.pointer (some ⟨p, 0, none⟩)) (.pointer (some ⟨q, 0, none⟩)) y' P w Fr (.returned (.bool true)) w5 := ⟨H1', H2', He ++ [(tt, Obj.cells #[.int .i64 4, .int .i64 b0, .int .i64 p0, .bool t0] 101)], rfl, hd1', hd2', hH5.sub (by (repeat' (first | refine sub_append ?_ ?_ | refine sub_cons ?_ ?_ | exact sub_nil)); all_goals first | (intro p hp; simp only [List.mem_append, List.mem_cons, hp, true_or, or_true]) | simp only [List.mem_append, List.mem_cons, true_or, or_true]) (fun b => by simp only [keyc_append, keyc_cons, keyc_nil]; omega), (hG3.trans hg4).trans hg5⟩
            have HFIN := Lib.hid hfin
            clear hfin hd2' hd1' hH5 hH4 hH3 he
            go_wp2_with fail
            go_ret
            exact HFIN.out
          · have nq4 := int_ne11 e4
            by_cases e5 : d = 5
            · subst e5
              have hst : Ystep y 5 b0 p0 t0 = (Yneed y b0 p0 t0).1 := rfl
              rw [hst]
              have HNN := Lib.hid (yneed_nn y b0 p0 t0)
              have HY1 := Lib.hid (fun (wx : World) (F : HL) (hx : Holds wx (H1 ++ F)) => yneed_any b0 p0 t0 HD1.out hx)
              have HY2 := Lib.hid (fun (wx : World) (F : HL) (hx : Holds wx (H2 ++ F)) => rywant_any b0 p0 t0 HD2.out hx)
              clear hst HD1 HD2
              generalize (Yneed y b0 p0 t0) = rr at *
              obtain ⟨y', cc⟩ := rr
              have hcc : (cc == cc) = true := by simp
              go_upto_region 15 with fail
              generalize w.alloc (.cells #[.int .i64 5, .int .i64 b0, .int .i64 p0, .bool t0] 101) = wA at *
              generalize w.heap.size = tt at *
              refine Z_begin (fun wx => wx.cell? ⟨tt, 0, none⟩ = some (.int .i64 5) ∧ wx.cell? ⟨tt, 1, none⟩ = some (.int .i64 b0) ∧ wx.cell? ⟨tt, 2, none⟩ = some (.int .i64 p0) ∧ wx.cell? ⟨tt, 3, none⟩ = some (.bool t0)) 19 (by kernel_rfl) (fun w1 hd => HS.out _ _ (hHA.dr hd) (by simp)) (fun w1 hd hs => ?_)
              have hH3 := hHA.dr hd; have hG3 := hGA.trans (Grew.dr hd); clear hd hHA hGA
              refine Z_takeD 0 (some 88) (v := ?_) rfl rfl (by kernel_rfl) (fun _ _ _ h => h) (by rfl) hs ?_ ?_
              rotate_left
              · intro wx hx; obtain ⟨x0, x1, x2, x3⟩ := hx; go_simp; try with_reducible rfl
              simp only [Act.put, List.setIfInBounds_toArray, List.set_cons_succ, List.set_cons_zero]
              refine Z_takeD 1 (some 89) (v := ?_) rfl rfl (by kernel_rfl) (fun _ _ _ h => h) (by rfl) hs ?_ ?_
              rotate_left
              · intro wx hx; obtain ⟨x0, x1, x2, x3⟩ := hx; go_simp; try with_reducible rfl
              simp only [Act.put, List.setIfInBounds_toArray, List.set_cons_succ, List.set_cons_zero]
              refine Z_takeD 2 (some 90) (v := ?_) rfl rfl (by kernel_rfl) (fun _ _ _ h => h) (by rfl) hs ?_ ?_
              rotate_left
              · intro wx hx; obtain ⟨x0, x1, x2, x3⟩ := hx; go_simp; try with_reducible rfl
              simp only [Act.put, List.setIfInBounds_toArray, List.set_cons_succ, List.set_cons_zero]
              refine Z_takeD 3 (some 91) (v := ?_) rfl rfl (by kernel_rfl) (fun _ _ _ h => h) (by rfl) hs ?_ ?_
              rotate_left
              · intro wx hx; obtain ⟨x0, x1, x2, x3⟩ := hx; go_simp; try with_reducible rfl
              simp only [Act.put, List.setIfInBounds_toArray, List.set_cons_succ, List.set_cons_zero]
              refine Z_takeD 4 (some 92) (v := ?_) rfl rfl (by kernel_rfl) (fun _ _ _ h => h) (by rfl) hs ?_ ?_
              rotate_left
              · intro wx hx; obtain ⟨x0, x1, x2, x3⟩ := hx; go_simp; try with_reducible rfl
              simp only [Act.put, List.setIfInBounds_toArray, List.set_cons_succ, List.set_cons_zero]
              refine Z_takeD 5 (some 93) (v := ?_) rfl rfl (by kernel_rfl) (fun _ _ _ h => h) (by rfl) hs ?_ ?_
              rotate_left
              · intro wx hx; obtain ⟨x0, x1, x2, x3⟩ := hx; go_simp; try with_reducible rfl
              simp only [Act.put, List.setIfInBounds_toArray, List.set_cons_succ, List.set_cons_zero]
              refine Z_takeD 6 (some 94) (v := ?_) rfl rfl (by kernel_rfl) (fun _ _ _ h => h) (by rfl) hs ?_ ?_
              rotate_left
              · intro wx hx; obtain ⟨x0, x1, x2, x3⟩ := hx; go_simp; try with_reducible rfl
              simp only [Act.put, List.setIfInBounds_toArray, List.set_cons_succ, List.set_cons_zero]
              refine Z_takeD 9 (some 97) (v := ?_) rfl rfl (by kernel_rfl) (fun _ _ _ h => h) (by rfl) hs ?_ ?_
              rotate_left
              · intro wx hx; obtain ⟨x0, x1, x2, x3⟩ := hx; go_simp; try with_reducible rfl
              simp only [Act.put, List.setIfInBounds_toArray, List.set_cons_succ, List.set_cons_zero]
              refine Z_takeD 10 (some 98) (v := ?_) rfl rfl (by kernel_rfl) (fun _ _ _ h => h) (by rfl) hs ?_ ?_
              rotate_left
              · intro wx hx; obtain ⟨x0, x1, x2, x3⟩ := hx; go_simp; try with_reducible rfl
              simp only [Act.put, List.setIfInBounds_toArray, List.set_cons_succ, List.set_cons_zero]
              refine Z_takeD 11 (some 99) (v := ?_) rfl rfl (by kernel_rfl) (fun _ _ _ h => h) (by rfl) hs ?_ ?_
              rotate_left
              · intro wx hx; obtain ⟨x0, x1, x2, x3⟩ := hx; go_simp; try with_reducible rfl
              simp only [Act.put, List.setIfInBounds_toArray, List.set_cons_succ, List.set_cons_zero]
              refine Z_takeD 12 (some 100) (v := ?_) rfl rfl (by kernel_rfl) (fun _ _ _ h => h) (by rfl) hs ?_ ?_
              rotate_left
              · intro wx hx; obtain ⟨x0, x1, x2, x3⟩ := hx; go_simp; try with_reducible rfl
              simp only [Act.put, List.setIfInBounds_toArray, List.set_cons_succ, List.set_cons_zero]
              refine Z_takeD 13 (some 101) (v := ?_) rfl rfl (by kernel_rfl) (fun _ _ _ h => h) (by rfl) hs ?_ ?_
              rotate_left
              · intro wx hx; obtain ⟨x0, x1, x2, x3⟩ := hx; go_simp; try with_reducible rfl
              simp only [Act.put, List.setIfInBounds_toArray, List.set_cons_succ, List.set_cons_zero]
              refine Z_takeD 14 (some 102) (v := ?_) rfl rfl (by kernel_rfl) (fun _ _ _ h => h) (by rfl) hs ?_ ?_
              rotate_left
              · intro wx hx; obtain ⟨x0, x1, x2, x3⟩ := hx; go_simp; try with_reducible rfl
              simp only [Act.put, List.setIfInBounds_toArray, List.set_cons_succ, List.set_cons_zero]
              refine Z_takeD 15 (some 103) (v := ?_) rfl rfl (by kernel_rfl) (fun _ _ _ h => h) (by rfl) hs ?_ ?_
              rotate_left
              · intro wx hx; obtain ⟨x0, x1, x2, x3⟩ := hx; go_simp; try with_reducible rfl
              simp only [Act.put, List.setIfInBounds_toArray, List.set_cons_succ, List.set_cons_zero]
              refine Z_mid 7 rfl (by kernel_rfl) (fun K hK => ?_)
              have ⟨x0, x1, x2, x3⟩ := hs
              go_simp; refine (HY1.out w1 ((tt, Obj.cells #[.int .i64 5, .int .i64 b0, .int .i64 p0, .bool t0] 101) :: (H2 ++ Fr)) (hH3.sub (by (repeat' (first | refine sub_append ?_ ?_ | refine sub_cons ?_ ?_ | exact sub_nil)); all_goals first | (intro p hp; simp only [List.mem_append, List.mem_cons, hp, true_or, or_true]) | simp only [List.mem_append, List.mem_cons, true_or, or_true]) (fun b => by simp only [keyc_append, keyc_cons, keyc_nil]; omega))).mono ?_; rintro e w4 ⟨ve, H1', He, rfl, he, hd1', hH4, hg4⟩   -- call w
              clear x0 x1 x2 x3
              refine hK _ _ (HS.out _ _ hH4 (by simp)) (fun hs2 => ?_); clear hK K hs; have hs := hs2; clear hs2
              refine Z_mid 8 rfl (by kernel_rfl) (fun K hK => ?_)
              have ⟨x0, x1, x2, x3⟩ := hs
              go_simp; refine (num_any ve cc He (H1' ++ ((tt, Obj.cells #[.int .i64 5, .int .i64 b0, .int .i64 p0, .bool t0] 101) :: (H2 ++ Fr))) w4 he (hH4.sub (by (repeat' (first | refine sub_append ?_ ?_ | refine sub_cons ?_ ?_ | exact sub_nil)); all_goals first | (intro p hp; simp only [List.mem_append, List.mem_cons, hp, true_or, or_true]) | simp only [List.mem_append, List.mem_cons, true_or, or_true]) (fun b => by simp only [keyc_append, keyc_cons, keyc_nil]; omega)) HNN.out).mono ?_; rintro e w5 ⟨rfl, rfl⟩   -- call w
              clear x0 x1 x2 x3
              refine hK _ _ (hs) (fun hs2 => ?_); clear hK K hs; have hs := hs2; clear hs2
              refine Z_mid 16 rfl (by kernel_rfl) (fun K hK => ?_)
              have ⟨x0, x1, x2, x3⟩ := hs
              go_simp; refine (HY2.out w4 (H1' ++ (He ++ ([(tt, Obj.cells #[.int .i64 5, .int .i64 b0, .int .i64 p0, .bool t0] 101)] ++ Fr))) (hH4.sub (by (repeat' (first | refine sub_append ?_ ?_ | refine sub_cons ?_ ?_ | exact sub_nil)); all_goals first | (intro p hp; simp only [List.mem_append, List.mem_cons, hp, true_or, or_true]) | simp only [List.mem_append, List.mem_cons, true_or, or_true]) (fun b => by simp only [keyc_append, keyc_cons, keyc_nil]; omega))).mono ?_; rintro e w5 ⟨H2', rfl, hd2', hH5, hg5⟩   -- call w
              clear x0 x1 x2 x3
              refine hK _ _ (HS.out _ _ hH5 (by simp)) (fun hs2 => ?_); clear hK K hs; have hs := hs2; clear hs2
              refine Z_takeD 17 (some 105) (v := ?_) rfl rfl (by kernel_rfl) (fun _ _ _ h => h) (by rfl) hs ?_ ?_
              rotate_left
              · intro wx hx; obtain ⟨x0, x1, x2, x3⟩ := hx; go_simp; try with_reducible rfl
              simp only [Act.put, List.setIfInBounds_toArray, List.set_cons_succ, List.set_cons_zero]
              refine Z_takeD 18 (some 6) (v := ?_) rfl rfl (by kernel_rfl) (fun _ _ _ h => h) (by rfl) hs ?_ ?_
              rotate_left
              · intro wx hx; obtain ⟨x0, x1, x2, x3⟩ := hx; go_simp; try with_reducible rfl
              simp only [Act.put, List.setIfInBounds_toArray, List.set_cons_succ, List.set_cons_zero]
              refine Z_done (by kernel_rfl) ?_ _
              have hfin : Done11 (.pointer (some ⟨p, 0, none⟩)) (.pointer (some ⟨q, 0, none⟩)) y' P w Fr (.returned (.bool true)) w5 := ⟨H1', H2', He ++ [(tt, Obj.cells #[.int .i64 5, .int .i64 b0, .int .i64 p0, .bool t0] 101)], rfl, hd1', hd2', hH5.sub (by (repeat' (first | refine sub_append ?_ ?_ | refine sub_cons ?_ ?_ | exact sub_nil)); all_goals first | (intro p hp; simp only [List.mem_append, List.mem_cons, hp, true_or, or_true]) | simp only [List.mem_append, List.mem_cons, true_or, or_true]) (fun b => by simp only [keyc_append, keyc_cons, keyc_nil]; omega), (hG3.trans hg4).trans hg5⟩
              have HFIN := Lib.hid hfin
              clear hfin hd2' hd1' hH5 hH4 hH3 he
              go_wp2_with fail
              go_ret
              exact HFIN.out
            · have nq5 := int_ne11 e5
              by_cases e6 : d = 6
              · subst e6
                have hst : Ystep y 6 b0 p0 t0 = (Ydrop y b0 p0).1 := rfl
                rw [hst]
                have HNN := Lib.hid (ydrop_nn y b0 p0)
                have HY1 := Lib.hid (fun (wx : World) (F : HL) (hx : Holds wx (H1 ++ F)) => ydrop_any b0 p0 HD1.out hx)
                have HY2 := Lib.hid (fun (wx : World) (F : HL) (hx : Holds wx (H2 ++ F)) => rydrop_any b0 p0 HD2.out hx)
                clear hst HD1 HD2
                generalize (Ydrop y b0 p0) = rr at *
                obtain ⟨y', cc⟩ := rr
                have hcc : (cc == cc) = true := by simp
                go_upto_region 17 with fail
                generalize w.alloc (.cells #[.int .i64 6, .int .i64 b0, .int .i64 p0, .bool t0] 101) = wA at *
                generalize w.heap.size = tt at *
                refine Z_begin (fun wx => wx.cell? ⟨tt, 0, none⟩ = some (.int .i64 6) ∧ wx.cell? ⟨tt, 1, none⟩ = some (.int .i64 b0) ∧ wx.cell? ⟨tt, 2, none⟩ = some (.int .i64 p0) ∧ wx.cell? ⟨tt, 3, none⟩ = some (.bool t0)) 15 (by kernel_rfl) (fun w1 hd => HS.out _ _ (hHA.dr hd) (by simp)) (fun w1 hd hs => ?_)
                have hH3 := hHA.dr hd; have hG3 := hGA.trans (Grew.dr hd); clear hd hHA hGA
                refine Z_takeD 0 (some 108) (v := ?_) rfl rfl (by kernel_rfl) (fun _ _ _ h => h) (by rfl) hs ?_ ?_
                rotate_left
                · intro wx hx; obtain ⟨x0, x1, x2, x3⟩ := hx; go_simp; try with_reducible rfl
                simp only [Act.put, List.setIfInBounds_toArray, List.set_cons_succ, List.set_cons_zero]
                refine Z_takeD 1 (some 109) (v := ?_) rfl rfl (by kernel_rfl) (fun _ _ _ h => h) (by rfl) hs ?_ ?_
                rotate_left
                · intro wx hx; obtain ⟨x0, x1, x2, x3⟩ := hx; go_simp; try with_reducible rfl
                simp only [Act.put, List.setIfInBounds_toArray, List.set_cons_succ, List.set_cons_zero]
                refine Z_takeD 2 (some 110) (v := ?_) rfl rfl (by kernel_rfl) (fun _ _ _ h => h) (by rfl) hs ?_ ?_
                rotate_left
                · intro wx hx; obtain ⟨x0, x1, x2, x3⟩ := hx; go_simp; try with_reducible rfl
                simp only [Act.put, List.setIfInBounds_toArray, List.set_cons_succ, List.set_cons_zero]
                refine Z_takeD 3 (some 111) (v := ?_) rfl rfl (by kernel_rfl) (fun _ _ _ h => h) (by rfl) hs ?_ ?_
                rotate_left
                · intro wx hx; obtain ⟨x0, x1, x2, x3⟩ := hx; go_simp; try with_reducible rfl
                simp only [Act.put, List.setIfInBounds_toArray, List.set_cons_succ, List.set_cons_zero]
                refine Z_takeD 4 (some 112) (v := ?_) rfl rfl (by kernel_rfl) (fun _ _ _ h => h) (by rfl) hs ?_ ?_
                rotate_left
                · intro wx hx; obtain ⟨x0, x1, x2, x3⟩ := hx; go_simp; try with_reducible rfl
                simp only [Act.put, List.setIfInBounds_toArray, List.set_cons_succ, List.set_cons_zero]
                refine Z_takeD 7 (some 115) (v := ?_) rfl rfl (by kernel_rfl) (fun _ _ _ h => h) (by rfl) hs ?_ ?_
                rotate_left
                · intro wx hx; obtain ⟨x0, x1, x2, x3⟩ := hx; go_simp; try with_reducible rfl
                simp only [Act.put, List.setIfInBounds_toArray, List.set_cons_succ, List.set_cons_zero]
                refine Z_takeD 8 (some 116) (v := ?_) rfl rfl (by kernel_rfl) (fun _ _ _ h => h) (by rfl) hs ?_ ?_
                rotate_left
                · intro wx hx; obtain ⟨x0, x1, x2, x3⟩ := hx; go_simp; try with_reducible rfl
                simp only [Act.put, List.setIfInBounds_toArray, List.set_cons_succ, List.set_cons_zero]
                refine Z_takeD 9 (some 117) (v := ?_) rfl rfl (by kernel_rfl) (fun _ _ _ h => h) (by rfl) hs ?_ ?_
                rotate_left
                · intro wx hx; obtain ⟨x0, x1, x2, x3⟩ := hx; go_simp; try with_reducible rfl
                simp only [Act.put, List.setIfInBounds_toArray, List.set_cons_succ, List.set_cons_zero]
                refine Z_takeD 10 (some 118) (v := ?_) rfl rfl (by kernel_rfl) (fun _ _ _ h => h) (by rfl) hs ?_ ?_
                rotate_left
                · intro wx hx; obtain ⟨x0, x1, x2, x3⟩ := hx; go_simp; try with_reducible rfl
                simp only [Act.put, List.setIfInBounds_toArray, List.set_cons_succ, List.set_cons_zero]
                refine Z_takeD 11 (some 119) (v := ?_) rfl rfl (by kernel_rfl) (fun _ _ _ h => h) (by rfl) hs ?_ ?_
                rotate_left
                · intro wx hx; obtain ⟨x0, x1, x2, x3⟩ := hx; go_simp; try with_reducible rfl
                simp only [Act.put, List.setIfInBounds_toArray, List.set_cons_succ, List.set_cons_zero]
                refine Z_mid 5 rfl (by kernel_rfl) (fun K hK => ?_)
                have ⟨x0, x1, x2, x3⟩ := hs
                go_simp; refine (HY1.out w1 ((tt, Obj.cells #[.int .i64 6, .int .i64 b0, .int .i64 p0, .bool t0] 101) :: (H2 ++ Fr)) (hH3.sub (by (repeat' (first | refine sub_append ?_ ?_ | refine sub_cons ?_ ?_ | exact sub_nil)); all_goals first | (intro p hp; simp only [List.mem_append, List.mem_cons, hp, true_or, or_true]) | simp only [List.mem_append, List.mem_cons, true_or, or_true]) (fun b => by simp only [keyc_append, keyc_cons, keyc_nil]; omega))).mono ?_; rintro e w4 ⟨ve, H1', He, rfl, he, hd1', hH4, hg4⟩   -- call w
                clear x0 x1 x2 x3
                refine hK _ _ (HS.out _ _ hH4 (by simp)) (fun hs2 => ?_); clear hK K hs; have hs := hs2; clear hs2
                refine Z_mid 6 rfl (by kernel_rfl) (fun K hK => ?_)
                have ⟨x0, x1, x2, x3⟩ := hs
                go_simp; refine (num_any ve cc He (H1' ++ ((tt, Obj.cells #[.int .i64 6, .int .i64 b0, .int .i64 p0, .bool t0] 101) :: (H2 ++ Fr))) w4 he (hH4.sub (by (repeat' (first | refine sub_append ?_ ?_ | refine sub_cons ?_ ?_ | exact sub_nil)); all_goals first | (intro p hp; simp only [List.mem_append, List.mem_cons, hp, true_or, or_true]) | simp only [List.mem_append, List.mem_cons, true_or, or_true]) (fun b => by simp only [keyc_append, keyc_cons, keyc_nil]; omega)) HNN.out).mono ?_; rintro e w5 ⟨rfl, rfl⟩   -- call w
                clear x0 x1 x2 x3
                refine hK _ _ (hs) (fun hs2 => ?_); clear hK K hs; have hs := hs2; clear hs2
                refine Z_mid 12 rfl (by kernel_rfl) (fun K hK => ?_)
                have ⟨x0, x1, x2, x3⟩ := hs
                go_simp; refine (HY2.out w4 (H1' ++ (He ++ ([(tt, Obj.cells #[.int .i64 6, .int .i64 b0, .int .i64 p0, .bool t0] 101)] ++ Fr))) (hH4.sub (by (repeat' (first | refine sub_append ?_ ?_ | refine sub_cons ?_ ?_ | exact sub_nil)); all_goals first | (intro p hp; simp only [List.mem_append, List.mem_cons, hp, true_or, or_true]) | simp only [List.mem_append, List.mem_cons, true_or, or_true]) (fun b => by simp only [keyc_append, keyc_cons, keyc_nil]; omega))).mono ?_; rintro e w5 ⟨H2', rfl, hd2', hH5, hg5⟩   -- call w
                clear x0 x1 x2 x3
                refine hK _ _ (HS.out _ _ hH5 (by simp)) (fun hs2 => ?_); clear hK K hs; have hs := hs2; clear hs2
                refine Z_takeD 13 (some 121) (v := ?_) rfl rfl (by kernel_rfl) (fun _ _ _ h => h) (by rfl) hs ?_ ?_
                rotate_left
                · intro wx hx; obtain ⟨x0, x1, x2, x3⟩ := hx; go_simp; try with_reducible rfl
                simp only [Act.put, List.setIfInBounds_toArray, List.set_cons_succ, List.set_cons_zero]
                refine Z_takeD 14 (some 6) (v := ?_) rfl rfl (by kernel_rfl) (fun _ _ _ h => h) (by rfl) hs ?_ ?_
                rotate_left
                · intro wx hx; obtain ⟨x0, x1, x2, x3⟩ := hx; go_simp; try with_reducible rfl
                simp only [Act.put, List.setIfInBounds_toArray, List.set_cons_succ, List.set_cons_zero]
                refine Z_done (by kernel_rfl) ?_ _
                have hfin : Done11 (.pointer (some ⟨p, 0, none⟩)) (.pointer (some ⟨q, 0, none⟩)) y' P w Fr (.returned (.bool true)) w5 := ⟨H1', H2', He ++ [(tt, Obj.cells #[.int .i64 6, .int .i64 b0, .int .i64 p0, .bool t0] 101)], rfl, hd1', hd2', hH5.sub (by (repeat' (first | refine sub_append ?_ ?_ | refine sub_cons ?_ ?_ | exact sub_nil)); all_goals first | (intro p hp; simp only [List.mem_append, List.mem_cons, hp, true_or, or_true]) | simp only [List.mem_append, List.mem_cons, true_or, or_true]) (fun b => by simp only [keyc_append, keyc_cons, keyc_nil]; omega), (hG3.trans hg4).trans hg5⟩
                have HFIN := Lib.hid hfin
                clear hfin hd2' hd1' hH5 hH4 hH3 he
                go_wp2_with fail
                go_ret
                exact HFIN.out
              · have nq6 := int_ne11 e6
                by_cases e7 : d = 7
                · subst e7
                  have hst : Ystep y 7 b0 p0 t0 = (Ywash y b0 p0).1 := rfl
                  rw [hst]
                  have HNN := Lib.hid (ywash_nn y b0 p0)
                  have HY1 := Lib.hid (fun (wx : World) (F : HL) (hx : Holds wx (H1 ++ F)) => ywash_any b0 p0 HD1.out hx)
                  have HY2 := Lib.hid (fun (wx : World) (F : HL) (hx : Holds wx (H2 ++ F)) => rywash_any b0 p0 HD2.out hx)
                  clear hst HD1 HD2
                  generalize (Ywash y b0 p0) = rr at *
                  obtain ⟨y', cc⟩ := rr
                  have hcc : (cc == cc) = true := by simp
                  go_upto_region 19 with fail
                  generalize w.alloc (.cells #[.int .i64 7, .int .i64 b0, .int .i64 p0, .bool t0] 101) = wA at *
                  generalize w.heap.size = tt at *
                  refine Z_begin (fun wx => wx.cell? ⟨tt, 0, none⟩ = some (.int .i64 7) ∧ wx.cell? ⟨tt, 1, none⟩ = some (.int .i64 b0) ∧ wx.cell? ⟨tt, 2, none⟩ = some (.int .i64 p0) ∧ wx.cell? ⟨tt, 3, none⟩ = some (.bool t0)) 15 (by kernel_rfl) (fun w1 hd => HS.out _ _ (hHA.dr hd) (by simp)) (fun w1 hd hs => ?_)
                  have hH3 := hHA.dr hd; have hG3 := hGA.trans (Grew.dr hd); clear hd hHA hGA
                  refine Z_takeD 0 (some 124) (v := ?_) rfl rfl (by kernel_rfl) (fun _ _ _ h => h) (by rfl) hs ?_ ?_
                  rotate_left
                  · intro wx hx; obtain ⟨x0, x1, x2, x3⟩ := hx; go_simp; try with_reducible rfl
                  simp only [Act.put, List.setIfInBounds_toArray, List.set_cons_succ, List.set_cons_zero]
                  refine Z_takeD 1 (some 125) (v := ?_) rfl rfl (by kernel_rfl) (fun _ _ _ h => h) (by rfl) hs ?_ ?_
                  rotate_left
                  · intro wx hx; obtain ⟨x0, x1, x2, x3⟩ := hx; go_simp; try with_reducible rfl
                  simp only [Act.put, List.setIfInBounds_toArray, List.set_cons_succ, List.set_cons_zero]
                  refine Z_takeD 2 (some 126) (v := ?_) rfl rfl (by kernel_rfl) (fun _ _ _ h => h) (by rfl) hs ?_ ?_
                  rotate_left
                  · intro wx hx; obtain ⟨x0, x1, x2, x3⟩ := hx; go_simp; try with_reducible rfl
                  simp only [Act.put, List.setIfInBounds_toArray, List.set_cons_succ, List.set_cons_zero]
                  refine Z_takeD 3 (some 127) (v := ?_) rfl rfl (by kernel_rfl) (fun _ _ _ h => h) (by rfl) hs ?_ ?_
                  rotate_left
                  · intro wx hx; obtain ⟨x0, x1, x2, x3⟩ := hx; go_simp; try with_reducible rfl
                  simp only [Act.put, List.setIfInBounds_toArray, List.set_cons_succ, List.set_cons_zero]
                  refine Z_takeD 4 (some 128) (v := ?_) rfl rfl (by kernel_rfl) (fun _ _ _ h => h) (by rfl) hs ?_ ?_
                  rotate_left
                  · intro wx hx; obtain ⟨x0, x1, x2, x3⟩ := hx; go_simp; try with_reducible rfl
                  simp only [Act.put, List.setIfInBounds_toArray, List.set_cons_succ, List.set_cons_zero]
                  refine Z_takeD 7 (some 131) (v := ?_) rfl rfl (by kernel_rfl) (fun _ _ _ h => h) (by rfl) hs ?_ ?_
                  rotate_left
                  · intro wx hx; obtain ⟨x0, x1, x2, x3⟩ := hx; go_simp; try with_reducible rfl
                  simp only [Act.put, List.setIfInBounds_toArray, List.set_cons_succ, List.set_cons_zero]
                  refine Z_takeD 8 (some 132) (v := ?_) rfl rfl (by kernel_rfl) (fun _ _ _ h => h) (by rfl) hs ?_ ?_
                  rotate_left
                  · intro wx hx; obtain ⟨x0, x1, x2, x3⟩ := hx; go_simp; try with_reducible rfl
                  simp only [Act.put, List.setIfInBounds_toArray, List.set_cons_succ, List.set_cons_zero]
                  refine Z_takeD 9 (some 133) (v := ?_) rfl rfl (by kernel_rfl) (fun _ _ _ h => h) (by rfl) hs ?_ ?_
                  rotate_left
                  · intro wx hx; obtain ⟨x0, x1, x2, x3⟩ := hx; go_simp; try with_reducible rfl
                  simp only [Act.put, List.setIfInBounds_toArray, List.set_cons_succ, List.set_cons_zero]
                  refine Z_takeD 10 (some 134) (v := ?_) rfl rfl (by kernel_rfl) (fun _ _ _ h => h) (by rfl) hs ?_ ?_
                  rotate_left
                  · intro wx hx; obtain ⟨x0, x1, x2, x3⟩ := hx; go_simp; try with_reducible rfl
                  simp only [Act.put, List.setIfInBounds_toArray, List.set_cons_succ, List.set_cons_zero]
                  refine Z_takeD 11 (some 135) (v := ?_) rfl rfl (by kernel_rfl) (fun _ _ _ h => h) (by rfl) hs ?_ ?_
                  rotate_left
                  · intro wx hx; obtain ⟨x0, x1, x2, x3⟩ := hx; go_simp; try with_reducible rfl
                  simp only [Act.put, List.setIfInBounds_toArray, List.set_cons_succ, List.set_cons_zero]
                  refine Z_mid 5 rfl (by kernel_rfl) (fun K hK => ?_)
                  have ⟨x0, x1, x2, x3⟩ := hs
                  go_simp; refine (HY1.out w1 ((tt, Obj.cells #[.int .i64 7, .int .i64 b0, .int .i64 p0, .bool t0] 101) :: (H2 ++ Fr)) (hH3.sub (by (repeat' (first | refine sub_append ?_ ?_ | refine sub_cons ?_ ?_ | exact sub_nil)); all_goals first | (intro p hp; simp only [List.mem_append, List.mem_cons, hp, true_or, or_true]) | simp only [List.mem_append, List.mem_cons, true_or, or_true]) (fun b => by simp only [keyc_append, keyc_cons, keyc_nil]; omega))).mono ?_; rintro e w4 ⟨ve, H1', He, rfl, he, hd1', hH4, hg4⟩   -- call w
                  clear x0 x1 x2 x3
                  refine hK _ _ (HS.out _ _ hH4 (by simp)) (fun hs2 => ?_); clear hK K hs; have hs := hs2; clear hs2
                  refine Z_mid 6 rfl (by kernel_rfl) (fun K hK => ?_)
                  have ⟨x0, x1, x2, x3⟩ := hs
                  go_simp; refine (num_any ve cc He (H1' ++ ((tt, Obj.cells #[.int .i64 7, .int .i64 b0, .int .i64 p0, .bool t0] 101) :: (H2 ++ Fr))) w4 he (hH4.sub (by (repeat' (first | refine sub_append ?_ ?_ | refine sub_cons ?_ ?_ | exact sub_nil)); all_goals first | (intro p hp; simp only [List.mem_append, List.mem_cons, hp, true_or, or_true]) | simp only [List.mem_append, List.mem_cons, true_or, or_true]) (fun b => by simp only [keyc_append, keyc_cons, keyc_nil]; omega)) HNN.out).mono ?_; rintro e w5 ⟨rfl, rfl⟩   -- call w
                  clear x0 x1 x2 x3
                  refine hK _ _ (hs) (fun hs2 => ?_); clear hK K hs; have hs := hs2; clear hs2
                  refine Z_mid 12 rfl (by kernel_rfl) (fun K hK => ?_)
                  have ⟨x0, x1, x2, x3⟩ := hs
                  go_simp; refine (HY2.out w4 (H1' ++ (He ++ ([(tt, Obj.cells #[.int .i64 7, .int .i64 b0, .int .i64 p0, .bool t0] 101)] ++ Fr))) (hH4.sub (by (repeat' (first | refine sub_append ?_ ?_ | refine sub_cons ?_ ?_ | exact sub_nil)); all_goals first | (intro p hp; simp only [List.mem_append, List.mem_cons, hp, true_or, or_true]) | simp only [List.mem_append, List.mem_cons, true_or, or_true]) (fun b => by simp only [keyc_append, keyc_cons, keyc_nil]; omega))).mono ?_; rintro e w5 ⟨H2', rfl, hd2', hH5, hg5⟩   -- call w
                  clear x0 x1 x2 x3
                  refine hK _ _ (HS.out _ _ hH5 (by simp)) (fun hs2 => ?_); clear hK K hs; have hs := hs2; clear hs2
                  refine Z_takeD 13 (some 137) (v := ?_) rfl rfl (by kernel_rfl) (fun _ _ _ h => h) (by rfl) hs ?_ ?_
                  rotate_left
                  · intro wx hx; obtain ⟨x0, x1, x2, x3⟩ := hx; go_simp; try with_reducible rfl
                  simp only [Act.put, List.setIfInBounds_toArray, List.set_cons_succ, List.set_cons_zero]
                  refine Z_takeD 14 (some 6) (v := ?_) rfl rfl (by kernel_rfl) (fun _ _ _ h => h) (by rfl) hs ?_ ?_
                  rotate_left
                  · intro wx hx; obtain ⟨x0, x1, x2, x3⟩ := hx; go_simp; try with_reducible rfl
                  simp only [Act.put, List.setIfInBounds_toArray, List.set_cons_succ, List.set_cons_zero]
                  refine Z_done (by kernel_rfl) ?_ _
                  have hfin : Done11 (.pointer (some ⟨p, 0, none⟩)) (.pointer (some ⟨q, 0, none⟩)) y' P w Fr (.returned (.bool true)) w5 := ⟨H1', H2', He ++ [(tt, Obj.cells #[.int .i64 7, .int .i64 b0, .int .i64 p0, .bool t0] 101)], rfl, hd1', hd2', hH5.sub (by (repeat' (first | refine sub_append ?_ ?_ | refine sub_cons ?_ ?_ | exact sub_nil)); all_goals first | (intro p hp; simp only [List.mem_append, List.mem_cons, hp, true_or, or_true]) | simp only [List.mem_append, List.mem_cons, true_or, or_true]) (fun b => by simp only [keyc_append, keyc_cons, keyc_nil]; omega), (hG3.trans hg4).trans hg5⟩
                  have HFIN := Lib.hid hfin
                  clear hfin hd2' hd1' hH5 hH4 hH3 he
                  go_wp2_with fail
                  go_ret
                  exact HFIN.out
                · have nq7 := int_ne11 e7
                  have hst : Ystep y d b0 p0 t0 = y := by unfold Ystep; rw [if_neg e0, if_neg e1, if_neg e2, if_neg e3, if_neg e4, if_neg e5, if_neg e6, if_neg e7]
                  rw [hst]
                  clear e0 e1 e2 e3 e4 e5 e6 e7 hst
                  go_wp2_with fail
                  go_ret
                  exact ⟨H1, H2, [(w.heap.size, Obj.cells #[.int .i64 d, .int .i64 b0, .int .i64 p0, .bool t0] 101)], rfl, HD1.out, HD2.out, hHA.sub (by (repeat' (first | refine sub_append ?_ ?_ | refine sub_cons ?_ ?_ | exact sub_nil)); all_goals first | (intro p hp; simp only [List.mem_append, List.mem_cons, hp, true_or, or_true]) | simp only [List.mem_append, List.mem_cons, true_or, or_true]) (fun b => by simp only [keyc_append, keyc_cons, keyc_nil]; omega), hGA⟩
end Go.Proofs.Yteaeahhjkagbdaa
