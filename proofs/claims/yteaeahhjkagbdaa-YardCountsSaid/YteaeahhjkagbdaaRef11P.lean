/-
  sculleryref11: Want, Drop, Wash.
-/
import Derived.Test.YteaeahhjkagbdaaRef11W
import Derived.Test.YteaeahhjkagbdaaYd8
import Derived.Deep.DeepCutAuto
namespace Go.Proofs.Yteaeahhjkagbdaa
open Go.RowKit
set_option linter.unusedSimpArgs false
set_option linter.unusedVariables false

section
variable {v : Value} {y : List YB} {P : Nat} {H Fr : HL} {w : World}

set_option maxRecDepth 20000 in
set_option maxHeartbeats 2000000 in
theorem rywant_any (b i0 : Int) (d : Bool) (h : IsRY v y P H) (hH : Holds w (H ++ Fr)) : Calls Try.prog 86 #[v, .int .i64 b, .int .i64 i0, .bool d] w (RetRY v P (Yneed y b i0 d) w Fr) := by
  have HS := Lib.hid (rypage_any (w := w) b i0 h hH)
  have HI := Lib.hid h
  cases hp : Ypg y b i0 with
  | none =>
    rw [show Yneed y b i0 d = (y, 2) by simp [Yneed, hp]]
    rw [show Ypgno y b i0 = 2 by simp [Ypgno, hp]] at HS
    clear hp h
    go_enter Try.func86, Try.ntmps86
    go_wp2_with fail
    refine HS.out.mono ?_
    rintro e wx ⟨rfl, rfl⟩
    clear HS
    go_wp2_with fail
    go_ret
    exact ⟨H, rfl, HI.out, hH, Grew.refl _⟩
  | some xq =>
    obtain ⟨x, q⟩ := xq
    obtain ⟨ha, i, rfl, hil, hq⟩ := Ypg_some hp
    obtain ⟨k, rfl, hk, hx⟩ := Yat_some ha
    rw [show Ypgno y (k : Int) (i : Int) = 0 by simp [Ypgno, hp]] at HS
    have hyo : Yneed y (k : Int) (i : Int) d = if x.taken ≤ (i : Int) ∨ q.1 = true then (y, 9) else (y.set k { x with pages := x.pages.set i (true, d) }, 0) := by simp [Yneed, hp, Ypset, Yset]
    rw [hyo]
    obtain ⟨p, gs, cs, gt, ct, gn, cn, gd, cd, pn, pnc, pd, pdc, hA⟩ := h.open_ hx
    obtain rfl := hA.ptr
    have hbd := hA.bd
    obtain ⟨_, _, hb3, hb4, hb5, hb6, hb7, hb8, hb9, hb10, hb11, hb12, hkn, hb32, hP1, hP8⟩ := hbd
    unfold maxLen at hb4 hb6 hb8 hb10 hb12
    have hiP : i < P := by rw [← hA.ok.2.1]; exact hil
    have ht0 := hA.ok.1.1
    have HHD := Lib.hid (fun (wx : World) (hx : Holds wx (H ++ Fr)) => And.intro (hA.heads wx Fr hx) (And.intro (hA.cells wx Fr hx).2.1 (And.intro (hA.rows wx Fr hx) (hA.pages wx Fr hx i q hq))))
    have HSN := Lib.hid (fun (wx : World) (u : Bool × Bool) (hx : Holds wx (H ++ Fr)) => hA.setND wx Fr i q u hx hq)
    have HSD := Lib.hid (fun (wx : World) (u : Bool) (hx : Holds wx (H ++ Fr)) => hA.setD wx Fr i q u hx hq)
    clear hyo hp ha hx h hA hq hil
    obtain ⟨⟨_, a1, a2, a3, a4⟩, d0, ⟨a5, a6⟩, a7, a8, f1, f2⟩ := HHD.out w hH
    obtain ⟨qn, qd⟩ := q
    simp only at a7 a8 HSN HSD HHD ⊢
    generalize y.length = n at *
    by_cases h1 : x.taken ≤ (i : Int)
    · rw [if_pos (.inl h1)]
      generalize x.taken = t at *
      go_enter Try.func86, Try.ntmps86
      go_wp2_with fail
      refine HS.out.mono ?_
      rintro e wx ⟨rfl, rfl⟩
      clear HS
      go_wp2_with fail
      go_ret
      exact ⟨H, rfl, HI.out, hH, Grew.refl _⟩
    · cases qn
      · rw [if_neg (by simp; omega)]
        have HSET := Lib.hid (fun (wx : World) (hx : Holds wx (H ++ Fr)) => HSN.out wx (true, d) hx)
        clear HSN HSD
        obtain ⟨t, ht⟩ : ∃ t, t = x.taken := ⟨_, rfl⟩
        rw [← ht] at d0 h1 ht0
        have HT := Lib.hid ht; clear ht
        go_enter Try.func86, Try.ntmps86
        go_wp2_with fail
        refine HS.out.mono ?_
        rintro e wx ⟨rfl, rfl⟩
        clear HS
        go_upto_region 5 with fail
        refine Z_begin (fun wx => wx.cell? ⟨p, 2, none⟩ = some (.slice (some ⟨gn, 0, none⟩) n cn) ∧ wx.cell? ⟨p, 3, none⟩ = some (.slice (some ⟨gd, 0, none⟩) n cd) ∧ wx.cell? ⟨gn, k, none⟩ = some (.slice (some ⟨pn, 0, none⟩) P pnc) ∧ wx.cell? ⟨gd, k, none⟩ = some (.slice (some ⟨pd, 0, none⟩) P pdc)) 20 (by kernel_rfl) (fun w1 hd => ⟨(HHD.out _ (hH.dr hd)).1.2.2.1, (HHD.out _ (hH.dr hd)).1.2.2.2.1, (HHD.out _ (hH.dr hd)).2.2.1.1, (HHD.out _ (hH.dr hd)).2.2.1.2⟩) (fun w1 hd hs => ?_)
        have hH1 := hH.dr hd; have hG1 := Grew.dr hd; clear hd; clear a1 a2 a3 a4 a5 a6 a7 a8 f1 f2 d0; obtain ⟨⟨_, _, a2, a3, _⟩, _, ⟨a5, a6⟩, a7, a8, f1, f2⟩ := HHD.out _ hH1
        refine Z_takeD 0 (some 37) (v := ?_) rfl rfl (by kernel_rfl) (fun _ _ _ h => h) (by rfl) hs ?_ ?_
        rotate_left
        · intro wx hx; obtain ⟨x1, x2, x3, x4⟩ := hx; go_simp; try with_reducible rfl
        simp only [Act.put, List.setIfInBounds_toArray, List.set_cons_succ, List.set_cons_zero]
        refine Z_takeD 1 (some 38) (v := ?_) rfl rfl (by kernel_rfl) (fun _ _ _ h => h) (by rfl) hs ?_ ?_
        rotate_left
        · intro wx hx; obtain ⟨x1, x2, x3, x4⟩ := hx; go_simp; try with_reducible rfl
        simp only [Act.put, List.setIfInBounds_toArray, List.set_cons_succ, List.set_cons_zero]
        refine Z_takeD 2 (some 39) (v := ?_) rfl rfl (by kernel_rfl) (fun _ _ _ h => h) (by rfl) hs ?_ ?_
        rotate_left
        · intro wx hx; obtain ⟨x1, x2, x3, x4⟩ := hx; go_simp; try with_reducible rfl
        simp only [Act.put, List.setIfInBounds_toArray, List.set_cons_succ, List.set_cons_zero]
        refine Z_takeD 3 (some 40) (v := ?_) rfl rfl (by kernel_rfl) (fun _ _ _ h => h) (by rfl) hs ?_ ?_
        rotate_left
        · intro wx hx; obtain ⟨x1, x2, x3, x4⟩ := hx; go_simp; try with_reducible rfl
        simp only [Act.put, List.setIfInBounds_toArray, List.set_cons_succ, List.set_cons_zero]
        refine Z_takeD 4 (some 41) (v := ?_) rfl rfl (by kernel_rfl) (fun _ _ _ h => h) (by rfl) hs ?_ ?_
        rotate_left
        · intro wx hx; obtain ⟨x1, x2, x3, x4⟩ := hx; go_simp; try with_reducible rfl
        simp only [Act.put, List.setIfInBounds_toArray, List.set_cons_succ, List.set_cons_zero]
        refine Z_takeD 5 (some 42) (v := ?_) rfl rfl (by kernel_rfl) (fun _ _ _ h => h) (by rfl) hs ?_ ?_
        rotate_left
        · intro wx hx; obtain ⟨x1, x2, x3, x4⟩ := hx; go_simp; try with_reducible rfl
        simp only [Act.put, List.setIfInBounds_toArray, List.set_cons_succ, List.set_cons_zero]
        refine Z_takeD 6 (some 43) (v := ?_) rfl rfl (by kernel_rfl) (fun _ _ _ h => h) (by rfl) hs ?_ ?_
        rotate_left
        · intro wx hx; obtain ⟨x1, x2, x3, x4⟩ := hx; go_simp; try with_reducible rfl
        simp only [Act.put, List.setIfInBounds_toArray, List.set_cons_succ, List.set_cons_zero]
        refine Z_takeD 7 (some 44) (v := ?_) rfl rfl (by kernel_rfl) (fun _ _ _ h => h) (by rfl) hs ?_ ?_
        rotate_left
        · intro wx hx; obtain ⟨x1, x2, x3, x4⟩ := hx; go_simp; try with_reducible rfl
        simp only [Act.put, List.setIfInBounds_toArray, List.set_cons_succ, List.set_cons_zero]
        refine Z_takeD 8 (some 45) (v := ?_) rfl rfl (by kernel_rfl) (fun _ _ _ h => h) (by rfl) hs ?_ ?_
        rotate_left
        · intro wx hx; obtain ⟨x1, x2, x3, x4⟩ := hx; go_simp; try with_reducible rfl
        simp only [Act.put, List.setIfInBounds_toArray, List.set_cons_succ, List.set_cons_zero]
        refine Z_takeD 9 (some 46) (v := ?_) rfl rfl (by kernel_rfl) (fun _ _ _ h => h) (by rfl) hs ?_ ?_
        rotate_left
        · intro wx hx; obtain ⟨x1, x2, x3, x4⟩ := hx; go_simp; try with_reducible rfl
        simp only [Act.put, List.setIfInBounds_toArray, List.set_cons_succ, List.set_cons_zero]
        refine Z_takeD 10 (some 47) (v := ?_) rfl rfl (by kernel_rfl) (fun _ _ _ h => h) (by rfl) hs ?_ ?_
        rotate_left
        · intro wx hx; obtain ⟨x1, x2, x3, x4⟩ := hx; go_simp; try with_reducible rfl
        simp only [Act.put, List.setIfInBounds_toArray, List.set_cons_succ, List.set_cons_zero]
        refine Z_takeD 11 (some 48) (v := ?_) rfl rfl (by kernel_rfl) (fun _ _ _ h => h) (by rfl) hs ?_ ?_
        rotate_left
        · intro wx hx; obtain ⟨x1, x2, x3, x4⟩ := hx; go_simp; try with_reducible rfl
        simp only [Act.put, List.setIfInBounds_toArray, List.set_cons_succ, List.set_cons_zero]
        refine Z_takeD 12 (some 49) (v := ?_) rfl rfl (by kernel_rfl) (fun _ _ _ h => h) (by rfl) hs ?_ ?_
        rotate_left
        · intro wx hx; obtain ⟨x1, x2, x3, x4⟩ := hx; go_simp; try with_reducible rfl
        simp only [Act.put, List.setIfInBounds_toArray, List.set_cons_succ, List.set_cons_zero]
        refine Z_takeD 13 (some 50) (v := ?_) rfl rfl (by kernel_rfl) (fun _ _ _ h => h) (by rfl) hs ?_ ?_
        rotate_left
        · intro wx hx; obtain ⟨x1, x2, x3, x4⟩ := hx; go_simp; try with_reducible rfl
        simp only [Act.put, List.setIfInBounds_toArray, List.set_cons_succ, List.set_cons_zero]
        refine Z_takeD 14 (some 51) (v := ?_) rfl rfl (by kernel_rfl) (fun _ _ _ h => h) (by rfl) hs ?_ ?_
        rotate_left
        · intro wx hx; obtain ⟨x1, x2, x3, x4⟩ := hx; go_simp; try with_reducible rfl
        simp only [Act.put, List.setIfInBounds_toArray, List.set_cons_succ, List.set_cons_zero]
        refine Z_takeD 15 (some 52) (v := ?_) rfl rfl (by kernel_rfl) (fun _ _ _ h => h) (by rfl) hs ?_ ?_
        rotate_left
        · intro wx hx; obtain ⟨x1, x2, x3, x4⟩ := hx; go_simp; try with_reducible rfl
        simp only [Act.put, List.setIfInBounds_toArray, List.set_cons_succ, List.set_cons_zero]
        refine Z_takeD 16 (some 53) (v := ?_) rfl rfl (by kernel_rfl) (fun _ _ _ h => h) (by rfl) hs ?_ ?_
        rotate_left
        · intro wx hx; obtain ⟨x1, x2, x3, x4⟩ := hx; go_simp; try with_reducible rfl
        simp only [Act.put, List.setIfInBounds_toArray, List.set_cons_succ, List.set_cons_zero]
        refine Z_takeD 17 (some 54) (v := ?_) rfl rfl (by kernel_rfl) (fun _ _ _ h => h) (by rfl) hs ?_ ?_
        rotate_left
        · intro wx hx; obtain ⟨x1, x2, x3, x4⟩ := hx; go_simp; try with_reducible rfl
        simp only [Act.put, List.setIfInBounds_toArray, List.set_cons_succ, List.set_cons_zero]
        refine Z_mid 18 rfl (by kernel_rfl) (fun K hK => ?_)
        have ⟨x1, x2, x3, x4⟩ := hs
        go_simp   -- store w
        clear x1 x2 x3 x4
        refine hK _ _ (⟨cell_keep a2 a7 (by simp), cell_keep a3 a7 (by simp), cell_keep a5 a7 (by simp), cell_keep a6 a7 (by simp)⟩) (fun hs2 => ?_); clear hK K hs; have hs := hs2; clear hs2
        refine Z_takeD 19 (some 55) (v := ?_) rfl rfl (by kernel_rfl) (fun _ _ _ h => h) (by rfl) hs ?_ ?_
        rotate_left
        · intro wx hx; obtain ⟨x1, x2, x3, x4⟩ := hx; go_simp; try with_reducible rfl
        simp only [Act.put, List.setIfInBounds_toArray, List.set_cons_succ, List.set_cons_zero]
        refine Z_last 20 rfl (by kernel_rfl) rfl (fun K hK => ?_)
        have ⟨x1, x2, x3, x4⟩ := hs
        obtain ⟨f3, d3, _⟩ := HSET.out _ hH1; go_simp   -- store w
        clear x1 x2 x3 x4
        refine hK _ _ ?_; clear hK K hs
        refine Z_done (by kernel_rfl) ?_ _
        obtain ⟨f3, d3, H', hy', hH'⟩ := HSET.out _ hH1
        have HY := Lib.hid hy'
        have hGf := (hG1.setCell ⟨pn, i, none⟩ (.bool true)).setCell ⟨pd, i, none⟩ (.bool d)
        have HF := Lib.hid hH'
        clear hy' hH' f3 d3 a2 a3 a5 a6 a7 a8 f1 f2 hH1 hG1
        go_wp2_with fail
        go_ret
        exact ⟨H', rfl, HY.out, HF.out, hGf⟩
      · rw [if_pos (.inr rfl)]
        clear HSN HSD
        generalize x.taken = t at *
        go_enter Try.func86, Try.ntmps86
        go_wp2_with fail
        refine HS.out.mono ?_
        rintro e wx ⟨rfl, rfl⟩
        clear HS
        go_wp2_with fail
        go_ret
        exact ⟨H, rfl, HI.out, hH, Grew.refl _⟩

set_option maxRecDepth 20000 in
set_option maxHeartbeats 2000000 in
theorem rydrop_any (b i0 : Int) (h : IsRY v y P H) (hH : Holds w (H ++ Fr)) : Calls Try.prog 87 #[v, .int .i64 b, .int .i64 i0] w (RetRY v P (Ydrop y b i0) w Fr) := by
  have HS := Lib.hid (rypage_any (w := w) b i0 h hH)
  have HI := Lib.hid h
  cases hp : Ypg y b i0 with
  | none =>
    rw [show Ydrop y b i0 = (y, 2) by simp [Ydrop, hp]]
    rw [show Ypgno y b i0 = 2 by simp [Ypgno, hp]] at HS
    clear hp h
    go_enter Try.func87, Try.ntmps87
    go_wp2_with fail
    refine HS.out.mono ?_
    rintro e wx ⟨rfl, rfl⟩
    clear HS
    go_wp2_with fail
    go_ret
    exact ⟨H, rfl, HI.out, hH, Grew.refl _⟩
  | some xq =>
    obtain ⟨x, q⟩ := xq
    obtain ⟨ha, i, rfl, hil, hq⟩ := Ypg_some hp
    obtain ⟨k, rfl, hk, hx⟩ := Yat_some ha
    rw [show Ypgno y (k : Int) (i : Int) = 0 by simp [Ypgno, hp]] at HS
    have hyo : Ydrop y (k : Int) (i : Int) = if q.1 = true then (y.set k { x with pages := x.pages.set i (false, false) }, 0) else (y, 8) := by simp [Ydrop, hp, Ypset, Yset]
    rw [hyo]
    obtain ⟨p, gs, cs, gt, ct, gn, cn, gd, cd, pn, pnc, pd, pdc, hA⟩ := h.open_ hx
    obtain rfl := hA.ptr
    have hbd := hA.bd
    obtain ⟨_, _, hb3, hb4, hb5, hb6, hb7, hb8, hb9, hb10, hb11, hb12, hkn, hb32, hP1, hP8⟩ := hbd
    unfold maxLen at hb4 hb6 hb8 hb10 hb12
    have hiP : i < P := by rw [← hA.ok.2.1]; exact hil
    have ht0 := hA.ok.1.1
    have HHD := Lib.hid (fun (wx : World) (hx : Holds wx (H ++ Fr)) => And.intro (hA.heads wx Fr hx) (And.intro (hA.cells wx Fr hx).2.1 (And.intro (hA.rows wx Fr hx) (hA.pages wx Fr hx i q hq))))
    have HSN := Lib.hid (fun (wx : World) (u : Bool × Bool) (hx : Holds wx (H ++ Fr)) => hA.setND wx Fr i q u hx hq)
    have HSD := Lib.hid (fun (wx : World) (u : Bool) (hx : Holds wx (H ++ Fr)) => hA.setD wx Fr i q u hx hq)
    clear hyo hp ha hx h hA hq hil
    obtain ⟨⟨_, a1, a2, a3, a4⟩, d0, ⟨a5, a6⟩, a7, a8, f1, f2⟩ := HHD.out w hH
    obtain ⟨qn, qd⟩ := q
    simp only at a7 a8 HSN HSD HHD ⊢
    generalize y.length = n at *
    cases qn
    · rw [if_neg (by simp)]
      clear HSN HSD
      go_enter Try.func87, Try.ntmps87
      go_wp2_with fail
      refine HS.out.mono ?_
      rintro e wx ⟨rfl, rfl⟩
      clear HS
      go_wp2_with fail
      go_ret
      exact ⟨H, rfl, HI.out, hH, Grew.refl _⟩
    · rw [if_pos rfl]
      have HSET := Lib.hid (fun (wx : World) (hx : Holds wx (H ++ Fr)) => HSN.out wx (false, false) hx)
      clear HSN HSD
      go_enter Try.func87, Try.ntmps87
      go_wp2_with fail
      refine HS.out.mono ?_
      rintro e wx ⟨rfl, rfl⟩
      clear HS
      go_upto_region 5 with fail
      refine Z_begin (fun wx => wx.cell? ⟨p, 2, none⟩ = some (.slice (some ⟨gn, 0, none⟩) n cn) ∧ wx.cell? ⟨p, 3, none⟩ = some (.slice (some ⟨gd, 0, none⟩) n cd) ∧ wx.cell? ⟨gn, k, none⟩ = some (.slice (some ⟨pn, 0, none⟩) P pnc) ∧ wx.cell? ⟨gd, k, none⟩ = some (.slice (some ⟨pd, 0, none⟩) P pdc)) 19 (by kernel_rfl) (fun w1 hd => ⟨(HHD.out _ (hH.dr hd)).1.2.2.1, (HHD.out _ (hH.dr hd)).1.2.2.2.1, (HHD.out _ (hH.dr hd)).2.2.1.1, (HHD.out _ (hH.dr hd)).2.2.1.2⟩) (fun w1 hd hs => ?_)
      have hH1 := hH.dr hd; have hG1 := Grew.dr hd; clear hd; clear a1 a2 a3 a4 a5 a6 a7 a8 f1 f2 d0; obtain ⟨⟨_, _, a2, a3, _⟩, _, ⟨a5, a6⟩, a7, a8, f1, f2⟩ := HHD.out _ hH1
      refine Z_takeD 0 (some 25) (v := ?_) rfl rfl (by kernel_rfl) (fun _ _ _ h => h) (by rfl) hs ?_ ?_
      rotate_left
      · intro wx hx; obtain ⟨x1, x2, x3, x4⟩ := hx; go_simp; try with_reducible rfl
      simp only [Act.put, List.setIfInBounds_toArray, List.set_cons_succ, List.set_cons_zero]
      refine Z_takeD 1 (some 26) (v := ?_) rfl rfl (by kernel_rfl) (fun _ _ _ h => h) (by rfl) hs ?_ ?_
      rotate_left
      · intro wx hx; obtain ⟨x1, x2, x3, x4⟩ := hx; go_simp; try with_reducible rfl
      simp only [Act.put, List.setIfInBounds_toArray, List.set_cons_succ, List.set_cons_zero]
      refine Z_takeD 2 (some 27) (v := ?_) rfl rfl (by kernel_rfl) (fun _ _ _ h => h) (by rfl) hs ?_ ?_
      rotate_left
      · intro wx hx; obtain ⟨x1, x2, x3, x4⟩ := hx; go_simp; try with_reducible rfl
      simp only [Act.put, List.setIfInBounds_toArray, List.set_cons_succ, List.set_cons_zero]
      refine Z_takeD 3 (some 28) (v := ?_) rfl rfl (by kernel_rfl) (fun _ _ _ h => h) (by rfl) hs ?_ ?_
      rotate_left
      · intro wx hx; obtain ⟨x1, x2, x3, x4⟩ := hx; go_simp; try with_reducible rfl
      simp only [Act.put, List.setIfInBounds_toArray, List.set_cons_succ, List.set_cons_zero]
      refine Z_takeD 4 (some 29) (v := ?_) rfl rfl (by kernel_rfl) (fun _ _ _ h => h) (by rfl) hs ?_ ?_
      rotate_left
      · intro wx hx; obtain ⟨x1, x2, x3, x4⟩ := hx; go_simp; try with_reducible rfl
      simp only [Act.put, List.setIfInBounds_toArray, List.set_cons_succ, List.set_cons_zero]
      refine Z_takeD 5 (some 30) (v := ?_) rfl rfl (by kernel_rfl) (fun _ _ _ h => h) (by rfl) hs ?_ ?_
      rotate_left
      · intro wx hx; obtain ⟨x1, x2, x3, x4⟩ := hx; go_simp; try with_reducible rfl
      simp only [Act.put, List.setIfInBounds_toArray, List.set_cons_succ, List.set_cons_zero]
      refine Z_takeD 6 (some 31) (v := ?_) rfl rfl (by kernel_rfl) (fun _ _ _ h => h) (by rfl) hs ?_ ?_
      rotate_left
      · intro wx hx; obtain ⟨x1, x2, x3, x4⟩ := hx; go_simp; try with_reducible rfl
      simp only [Act.put, List.setIfInBounds_toArray, List.set_cons_succ, List.set_cons_zero]
      refine Z_takeD 7 (some 32) (v := ?_) rfl rfl (by kernel_rfl) (fun _ _ _ h => h) (by rfl) hs ?_ ?_
      rotate_left
      · intro wx hx; obtain ⟨x1, x2, x3, x4⟩ := hx; go_simp; try with_reducible rfl
      simp only [Act.put, List.setIfInBounds_toArray, List.set_cons_succ, List.set_cons_zero]
      refine Z_takeD 8 (some 33) (v := ?_) rfl rfl (by kernel_rfl) (fun _ _ _ h => h) (by rfl) hs ?_ ?_
      rotate_left
      · intro wx hx; obtain ⟨x1, x2, x3, x4⟩ := hx; go_simp; try with_reducible rfl
      simp only [Act.put, List.setIfInBounds_toArray, List.set_cons_succ, List.set_cons_zero]
      refine Z_takeD 9 (some 34) (v := ?_) rfl rfl (by kernel_rfl) (fun _ _ _ h => h) (by rfl) hs ?_ ?_
      rotate_left
      · intro wx hx; obtain ⟨x1, x2, x3, x4⟩ := hx; go_simp; try with_reducible rfl
      simp only [Act.put, List.setIfInBounds_toArray, List.set_cons_succ, List.set_cons_zero]
      refine Z_takeD 10 (some 35) (v := ?_) rfl rfl (by kernel_rfl) (fun _ _ _ h => h) (by rfl) hs ?_ ?_
      rotate_left
      · intro wx hx; obtain ⟨x1, x2, x3, x4⟩ := hx; go_simp; try with_reducible rfl
      simp only [Act.put, List.setIfInBounds_toArray, List.set_cons_succ, List.set_cons_zero]
      refine Z_takeD 11 (some 36) (v := ?_) rfl rfl (by kernel_rfl) (fun _ _ _ h => h) (by rfl) hs ?_ ?_
      rotate_left
      · intro wx hx; obtain ⟨x1, x2, x3, x4⟩ := hx; go_simp; try with_reducible rfl
      simp only [Act.put, List.setIfInBounds_toArray, List.set_cons_succ, List.set_cons_zero]
      refine Z_takeD 12 (some 37) (v := ?_) rfl rfl (by kernel_rfl) (fun _ _ _ h => h) (by rfl) hs ?_ ?_
      rotate_left
      · intro wx hx; obtain ⟨x1, x2, x3, x4⟩ := hx; go_simp; try with_reducible rfl
      simp only [Act.put, List.setIfInBounds_toArray, List.set_cons_succ, List.set_cons_zero]
      refine Z_takeD 13 (some 38) (v := ?_) rfl rfl (by kernel_rfl) (fun _ _ _ h => h) (by rfl) hs ?_ ?_
      rotate_left
      · intro wx hx; obtain ⟨x1, x2, x3, x4⟩ := hx; go_simp; try with_reducible rfl
      simp only [Act.put, List.setIfInBounds_toArray, List.set_cons_succ, List.set_cons_zero]
      refine Z_takeD 14 (some 39) (v := ?_) rfl rfl (by kernel_rfl) (fun _ _ _ h => h) (by rfl) hs ?_ ?_
      rotate_left
      · intro wx hx; obtain ⟨x1, x2, x3, x4⟩ := hx; go_simp; try with_reducible rfl
      simp only [Act.put, List.setIfInBounds_toArray, List.set_cons_succ, List.set_cons_zero]
      refine Z_takeD 15 (some 40) (v := ?_) rfl rfl (by kernel_rfl) (fun _ _ _ h => h) (by rfl) hs ?_ ?_
      rotate_left
      · intro wx hx; obtain ⟨x1, x2, x3, x4⟩ := hx; go_simp; try with_reducible rfl
      simp only [Act.put, List.setIfInBounds_toArray, List.set_cons_succ, List.set_cons_zero]
      refine Z_takeD 16 (some 41) (v := ?_) rfl rfl (by kernel_rfl) (fun _ _ _ h => h) (by rfl) hs ?_ ?_
      rotate_left
      · intro wx hx; obtain ⟨x1, x2, x3, x4⟩ := hx; go_simp; try with_reducible rfl
      simp only [Act.put, List.setIfInBounds_toArray, List.set_cons_succ, List.set_cons_zero]
      refine Z_mid 17 rfl (by kernel_rfl) (fun K hK => ?_)
      have ⟨x1, x2, x3, x4⟩ := hs
      go_simp   -- store w
      clear x1 x2 x3 x4
      refine hK _ _ (⟨cell_keep a2 a7 (by simp), cell_keep a3 a7 (by simp), cell_keep a5 a7 (by simp), cell_keep a6 a7 (by simp)⟩) (fun hs2 => ?_); clear hK K hs; have hs := hs2; clear hs2
      refine Z_takeD 18 (some 42) (v := ?_) rfl rfl (by kernel_rfl) (fun _ _ _ h => h) (by rfl) hs ?_ ?_
      rotate_left
      · intro wx hx; obtain ⟨x1, x2, x3, x4⟩ := hx; go_simp; try with_reducible rfl
      simp only [Act.put, List.setIfInBounds_toArray, List.set_cons_succ, List.set_cons_zero]
      refine Z_last 19 rfl (by kernel_rfl) rfl (fun K hK => ?_)
      have ⟨x1, x2, x3, x4⟩ := hs
      obtain ⟨f3, d3, _⟩ := HSET.out _ hH1; go_simp   -- store w
      clear x1 x2 x3 x4
      refine hK _ _ ?_; clear hK K hs
      refine Z_done (by kernel_rfl) ?_ _
      obtain ⟨f3, d3, H', hy', hH'⟩ := HSET.out _ hH1
      have HY := Lib.hid hy'
      have hGf := (hG1.setCell ⟨pn, i, none⟩ (.bool false)).setCell ⟨pd, i, none⟩ (.bool false)
      have HF := Lib.hid hH'
      clear hy' hH' f3 d3 a2 a3 a5 a6 a7 a8 f1 f2 hH1 hG1
      go_wp2_with fail
      go_ret
      exact ⟨H', rfl, HY.out, HF.out, hGf⟩

set_option maxRecDepth 20000 in
set_option maxHeartbeats 2000000 in
theorem rywash_any (b i0 : Int) (h : IsRY v y P H) (hH : Holds w (H ++ Fr)) : Calls Try.prog 88 #[v, .int .i64 b, .int .i64 i0] w (RetRY v P (Ywash y b i0) w Fr) := by
  have HS := Lib.hid (rypage_any (w := w) b i0 h hH)
  have HI := Lib.hid h
  cases hp : Ypg y b i0 with
  | none =>
    rw [show Ywash y b i0 = (y, 2) by simp [Ywash, hp]]
    rw [show Ypgno y b i0 = 2 by simp [Ypgno, hp]] at HS
    clear hp h
    go_enter Try.func88, Try.ntmps88
    go_wp2_with fail
    refine HS.out.mono ?_
    rintro e wx ⟨rfl, rfl⟩
    clear HS
    go_wp2_with fail
    go_ret
    exact ⟨H, rfl, HI.out, hH, Grew.refl _⟩
  | some xq =>
    obtain ⟨x, q⟩ := xq
    obtain ⟨ha, i, rfl, hil, hq⟩ := Ypg_some hp
    obtain ⟨k, rfl, hk, hx⟩ := Yat_some ha
    rw [show Ypgno y (k : Int) (i : Int) = 0 by simp [Ypgno, hp]] at HS
    have hyo : Ywash y (k : Int) (i : Int) = if q.1 = true then (y.set k { x with pages := x.pages.set i (q.1, false) }, 0) else (y, 8) := by simp [Ywash, hp, Ypset, Yset]
    rw [hyo]
    obtain ⟨p, gs, cs, gt, ct, gn, cn, gd, cd, pn, pnc, pd, pdc, hA⟩ := h.open_ hx
    obtain rfl := hA.ptr
    have hbd := hA.bd
    obtain ⟨_, _, hb3, hb4, hb5, hb6, hb7, hb8, hb9, hb10, hb11, hb12, hkn, hb32, hP1, hP8⟩ := hbd
    unfold maxLen at hb4 hb6 hb8 hb10 hb12
    have hiP : i < P := by rw [← hA.ok.2.1]; exact hil
    have ht0 := hA.ok.1.1
    have HHD := Lib.hid (fun (wx : World) (hx : Holds wx (H ++ Fr)) => And.intro (hA.heads wx Fr hx) (And.intro (hA.cells wx Fr hx).2.1 (And.intro (hA.rows wx Fr hx) (hA.pages wx Fr hx i q hq))))
    have HSN := Lib.hid (fun (wx : World) (u : Bool × Bool) (hx : Holds wx (H ++ Fr)) => hA.setND wx Fr i q u hx hq)
    have HSD := Lib.hid (fun (wx : World) (u : Bool) (hx : Holds wx (H ++ Fr)) => hA.setD wx Fr i q u hx hq)
    clear hyo hp ha hx h hA hq hil
    obtain ⟨⟨_, a1, a2, a3, a4⟩, d0, ⟨a5, a6⟩, a7, a8, f1, f2⟩ := HHD.out w hH
    obtain ⟨qn, qd⟩ := q
    simp only at a7 a8 HSN HSD HHD ⊢
    generalize y.length = n at *
    cases qn
    · rw [if_neg (by simp)]
      clear HSN HSD
      go_enter Try.func88, Try.ntmps88
      go_wp2_with fail
      refine HS.out.mono ?_
      rintro e wx ⟨rfl, rfl⟩
      clear HS
      go_wp2_with fail
      go_ret
      exact ⟨H, rfl, HI.out, hH, Grew.refl _⟩
    · rw [if_pos rfl]
      obtain ⟨H', hy', hh'⟩ := HSD.out w false hH
      have HY := Lib.hid hy'
      have HHF := Lib.hid hh'
      clear hy' hh' HSN HSD
      go_enter Try.func88, Try.ntmps88
      go_wp2_with fail
      refine HS.out.mono ?_
      rintro e wx ⟨rfl, rfl⟩
      clear HS
      go_wp2_with fail
      go_ret
      exact ⟨H', rfl, HY.out, HHF.out, (Grew.refl _).setCell _ _⟩
end
end Go.Proofs.Yteaeahhjkagbdaa
