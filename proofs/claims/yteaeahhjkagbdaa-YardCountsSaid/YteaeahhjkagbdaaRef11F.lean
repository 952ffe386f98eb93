/-
  sculleryref11: Free.
-/
import Derived.Test.YteaeahhjkagbdaaRef11W
import Derived.Deep.DeepCutAuto
namespace Go.Proofs.Yteaeahhjkagbdaa
open Go.RowKit
set_option linter.unusedSimpArgs false
set_option linter.unusedVariables false

section
variable {v : Value} {y : List YB} {P : Nat} {H Fr : HL} {w : World}
set_option maxRecDepth 20000 in
set_option maxHeartbeats 2000000 in
theorem ryfree_any (b : Int) (h : IsRY v y P H) (hH : Holds w (H ++ Fr)) : Calls Try.prog 84 #[v, .int .i64 b] w (RetRY v P (Yfree y b) w Fr) := by
  have HS := Lib.hid (rystate_any (w := w) b h hH)
  have HI := Lib.hid h
  cases ha : Yat y b with
  | none =>
    rw [show Yfree y b = (y, 2) by simp [Yfree, ha]]
    rw [Ystate_none ha] at HS
    clear ha h
    go_enter Try.func84, Try.ntmps84
    go_wp2_with fail
    refine HS.out.mono ?_
    rintro e wx ⟨rfl, rfl⟩
    clear HS
    go_wp2_with fail
    go_ret
    exact ⟨H, rfl, HI.out, hH, Grew.refl _⟩
  | some x =>
    obtain ⟨k, rfl, hk, hx⟩ := Yat_some ha
    rw [Ystate_some ha] at HS
    have HNE := Lib.hid (ryneeded_any (w := w) (k : Int) h hH)
    have hnl : (Yneeded y (k : Int)).length ≤ 8 := by
      rw [show Yneeded y (k : Int) = neededTo x.pages x.pages.length by simp [Yneeded, ha]]
      have := neededTo_len x.pages x.pages.length
      have := (h.small.2.2.2 x (List.mem_of_getElem? hx)).1.2.2.1
      omega
    obtain ⟨p, gs, cs, gt, ct, gn, cn, gd, cd, pn, pnc, pd, pdc, hA⟩ := h.open_ hx
    obtain rfl := hA.ptr
    have hyo : Yfree y (k : Int) = if (x.state ≠ 2 ∧ x.state ≠ 3) ∨ Yneeded y (k : Int) ≠ [] then (y, 9) else (y.set k { x with state := 1, taken := 0 }, 0) := by simp [Yfree, ha, Yset]
    rw [hyo]
    have hs0 : (x.state == 0) = false := by have := hA.ok.2.2; simp; omega
    have hbd := hA.bd
    obtain ⟨hb1, hb2, hb3, hb4, _, _, _, _, _, _, _, _, _, _, hP1, hP8⟩ := hbd
    have HHD := Lib.hid (fun (wx : World) (F : HL) (hx : Holds wx (H ++ F)) => And.intro (hA.heads wx F hx) (hA.cells wx F hx))
    have HST := Lib.hid (fun (wx : World) (F : HL) (hx : Holds wx (H ++ F)) => hA.setST wx F 1 0 hx (by omega) (by omega) (by omega) (by omega))
    unfold maxLen at hb2 hb4
    clear hyo ha hx h hA
    obtain ⟨⟨a0, a1, _, _, a4⟩, d1, d2, f1, f2⟩ := HHD.out w Fr hH
    generalize y.length = n at *
    by_cases h23 : x.state ≠ 2 ∧ x.state ≠ 3
    · rw [if_pos (.inl h23)]
      have e1 : (x.state != 2) = true := by simpa using h23.1
      have e2 : (x.state != 3) = true := by simpa using h23.2
      clear h23 HST HNE
      generalize x.state = s at *
      go_enter Try.func84, Try.ntmps84
      go_wp2_with fail
      refine HS.out.mono ?_
      rintro e wx ⟨rfl, rfl⟩
      clear HS
      go_wp2_with fail
      go_ret
      exact ⟨H, rfl, HI.out, hH, Grew.refl _⟩
    · have e12 : ((x.state != 2) = false) ∨ ((x.state != 2) = true ∧ (x.state != 3) = false) := by
        by_cases h2 : x.state = 2
        · left; simp [h2]
        · right; refine ⟨by simpa using h2, ?_⟩
          have : x.state = 3 := by omega
          simp [this]
      have hif : ((x.state ≠ 2 ∧ x.state ≠ 3) ∨ Yneeded y (k : Int) ≠ []) ↔ Yneeded y (k : Int) ≠ [] := by
        constructor
        · rintro (h | h)
          · exact absurd h h23
          · exact h
        · exact .inr
      simp only [hif]
      clear hif h23
      generalize hyn : Yneeded y (k : Int) = yn at *
      clear hyn
      by_cases hnn0 : yn = []
      · subst hnn0
        rw [if_neg (by simp)]
        rcases e12 with e1 | ⟨e1, e2⟩
        all_goals
          go_enter Try.func84, Try.ntmps84
          go_wp2_with fail
          refine HS.out.mono ?_
          rintro e wx ⟨rfl, rfl⟩
          clear HS
          go_wp2_with fail
          refine HNE.out.mono ?_
          rintro e w1 ⟨nv, Hn, rfl, hnv, hH1, hg1⟩
          obtain ⟨An, qn, rfl⟩ := hnv.val
          have hH2 : Holds w1 (H ++ Fr) := hH1.right
          clear HNE hnv hH1 a0 a1 a4 d1 d2 f1 f2
          go_upto_region 6 with fail
          refine Z_begin (fun wx => wx.cell? ⟨p, 0, none⟩ = some (.slice (some ⟨gs, 0, none⟩) n cs) ∧ wx.cell? ⟨p, 1, none⟩ = some (.slice (some ⟨gt, 0, none⟩) n ct)) 13 (by kernel_rfl) (fun w1 hd => ⟨(HHD.out _ _ (hH2.dr hd)).1.1, (HHD.out _ _ (hH2.dr hd)).1.2.1⟩) (fun w1 hd hs => ?_)
          have hH3 := hH2.dr hd; have hG1 := hg1.trans (Grew.dr hd); clear hd; obtain ⟨⟨a1, a2, _⟩, d1, d2, f1, f2⟩ := HHD.out _ _ hH3
          refine Z_takeD 0 (some 34) (v := ?_) rfl rfl (by kernel_rfl) (fun _ _ _ h => h) (by rfl) hs ?_ ?_
          rotate_left
          · intro wx hx; obtain ⟨x1, x2⟩ := hx; go_simp; try with_reducible rfl
          simp only [Act.put, List.setIfInBounds_toArray, List.set_cons_succ, List.set_cons_zero]
          refine Z_takeD 1 (some 35) (v := ?_) rfl rfl (by kernel_rfl) (fun _ _ _ h => h) (by rfl) hs ?_ ?_
          rotate_left
          · intro wx hx; obtain ⟨x1, x2⟩ := hx; go_simp; try with_reducible rfl
          simp only [Act.put, List.setIfInBounds_toArray, List.set_cons_succ, List.set_cons_zero]
          refine Z_takeD 2 (some 36) (v := ?_) rfl rfl (by kernel_rfl) (fun _ _ _ h => h) (by rfl) hs ?_ ?_
          rotate_left
          · intro wx hx; obtain ⟨x1, x2⟩ := hx; go_simp; try with_reducible rfl
          simp only [Act.put, List.setIfInBounds_toArray, List.set_cons_succ, List.set_cons_zero]
          refine Z_takeD 3 (some 37) (v := ?_) rfl rfl (by kernel_rfl) (fun _ _ _ h => h) (by rfl) hs ?_ ?_
          rotate_left
          · intro wx hx; obtain ⟨x1, x2⟩ := hx; go_simp; try with_reducible rfl
          simp only [Act.put, List.setIfInBounds_toArray, List.set_cons_succ, List.set_cons_zero]
          refine Z_takeD 4 (some 38) (v := ?_) rfl rfl (by kernel_rfl) (fun _ _ _ h => h) (by rfl) hs ?_ ?_
          rotate_left
          · intro wx hx; obtain ⟨x1, x2⟩ := hx; go_simp; try with_reducible rfl
          simp only [Act.put, List.setIfInBounds_toArray, List.set_cons_succ, List.set_cons_zero]
          refine Z_takeD 5 (some 39) (v := ?_) rfl rfl (by kernel_rfl) (fun _ _ _ h => h) (by rfl) hs ?_ ?_
          rotate_left
          · intro wx hx; obtain ⟨x1, x2⟩ := hx; go_simp; try with_reducible rfl
          simp only [Act.put, List.setIfInBounds_toArray, List.set_cons_succ, List.set_cons_zero]
          refine Z_takeD 6 (some 40) (v := ?_) rfl rfl (by kernel_rfl) (fun _ _ _ h => h) (by rfl) hs ?_ ?_
          rotate_left
          · intro wx hx; obtain ⟨x1, x2⟩ := hx; go_simp; try with_reducible rfl
          simp only [Act.put, List.setIfInBounds_toArray, List.set_cons_succ, List.set_cons_zero]
          refine Z_takeD 7 (some 41) (v := ?_) rfl rfl (by kernel_rfl) (fun _ _ _ h => h) (by rfl) hs ?_ ?_
          rotate_left
          · intro wx hx; obtain ⟨x1, x2⟩ := hx; go_simp; try with_reducible rfl
          simp only [Act.put, List.setIfInBounds_toArray, List.set_cons_succ, List.set_cons_zero]
          refine Z_takeD 8 (some 42) (v := ?_) rfl rfl (by kernel_rfl) (fun _ _ _ h => h) (by rfl) hs ?_ ?_
          rotate_left
          · intro wx hx; obtain ⟨x1, x2⟩ := hx; go_simp; try with_reducible rfl
          simp only [Act.put, List.setIfInBounds_toArray, List.set_cons_succ, List.set_cons_zero]
          refine Z_takeD 9 (some 43) (v := ?_) rfl rfl (by kernel_rfl) (fun _ _ _ h => h) (by rfl) hs ?_ ?_
          rotate_left
          · intro wx hx; obtain ⟨x1, x2⟩ := hx; go_simp; try with_reducible rfl
          simp only [Act.put, List.setIfInBounds_toArray, List.set_cons_succ, List.set_cons_zero]
          refine Z_takeD 10 (some 44) (v := ?_) rfl rfl (by kernel_rfl) (fun _ _ _ h => h) (by rfl) hs ?_ ?_
          rotate_left
          · intro wx hx; obtain ⟨x1, x2⟩ := hx; go_simp; try with_reducible rfl
          simp only [Act.put, List.setIfInBounds_toArray, List.set_cons_succ, List.set_cons_zero]
          refine Z_mid 11 rfl (by kernel_rfl) (fun K hK => ?_)
          have ⟨x1, x2⟩ := hs
          go_simp   -- store w
          clear x1 x2
          refine hK _ _ (⟨cell_keep a1 d1 (by simp), cell_keep a2 d1 (by simp)⟩) (fun hs2 => ?_); clear hK K hs; have hs := hs2; clear hs2
          refine Z_takeD 12 (some 45) (v := ?_) rfl rfl (by kernel_rfl) (fun _ _ _ h => h) (by rfl) hs ?_ ?_
          rotate_left
          · intro wx hx; obtain ⟨x1, x2⟩ := hx; go_simp; try with_reducible rfl
          simp only [Act.put, List.setIfInBounds_toArray, List.set_cons_succ, List.set_cons_zero]
          refine Z_last 13 rfl (by kernel_rfl) rfl (fun K hK => ?_)
          have ⟨x1, x2⟩ := hs
          obtain ⟨f3, d3, _⟩ := HST.out _ _ hH3; go_simp   -- store w
          clear x1 x2
          refine hK _ _ ?_; clear hK K hs
          refine Z_done (by kernel_rfl) ?_ _
          obtain ⟨f3, d3, H', hy', hH'⟩ := HST.out _ _ hH3
          have HY := Lib.hid hy'
          have hGf := (hG1.setCell ⟨gs, k, none⟩ (.int .i64 1)).setCell ⟨gt, k, none⟩ (.int .i64 0)
          have HF := Lib.hid hH'
          clear hy' hH' f3 d3 a1 a2 d1 d2 f1 f2 hH2 hH3 hG1
          go_wp2_with fail
          go_ret
          exact ⟨H', rfl, HY.out, HF.out, hGf⟩
      · rw [if_pos hnn0]
        have hpos : 0 < yn.length := List.length_pos_iff.2 hnn0
        have hpos2 : (0 : Int) < (yn.length : Int) := by omega
        clear HST hnn0
        rcases e12 with e1 | ⟨e1, e2⟩
        all_goals
          go_enter Try.func84, Try.ntmps84
          go_wp2_with fail
          refine HS.out.mono ?_
          rintro e wx ⟨rfl, rfl⟩
          clear HS
          go_wp2_with fail
          refine HNE.out.mono ?_
          rintro e w1 ⟨nv, Hn, rfl, hnv, hH1, hg1⟩
          obtain ⟨An, qn, rfl⟩ := hnv.val
          have hnl2 : (0 : Int) < (yn.length : Int) := by omega
          clear hnv HNE
          go_wp2_with fail
          go_ret
          exact ⟨H, rfl, HI.out, hH1.right, hg1⟩
end
end Go.Proofs.Yteaeahhjkagbdaa
