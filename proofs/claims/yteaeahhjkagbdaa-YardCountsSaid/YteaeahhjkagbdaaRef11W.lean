/-
  sculleryref11: Open, Next, Seal, Free, Retire, Want, Drop, Wash.
-/
import Derived.Test.YteaeahhjkagbdaaRef11R
import Derived.Deep.DeepCutAuto
namespace Go.Proofs.Yteaeahhjkagbdaa
open Go.RowKit
set_option linter.unusedSimpArgs false
set_option linter.unusedVariables false

/-- a cell that holds something else than the one that is set stays -/
theorem cell_keep {w : World} {p q : Addr} {u u' x : Value} (h : w.cell? p = some u) (k : w.cell? q = some u') (hne : u ≠ u') : (w.setCell q x).cell? p = some u := by
  have hpq : q ≠ p := fun e => by subst e; rw [h] at k; injection k with k; exact hne k
  rw [World.cell?_setCell_other _ _ _ _ hpq]; exact h
/-- returned a number; the reference's yard is y' -/
def RetRY (v : Value) (P : Nat) (r : List YB × Int) (w : World) (Fr : HL) (e : Ending) (w' : World) : Prop := ∃ H, e = .returned (.int .i64 r.2) ∧ IsRY v r.1 P H ∧ Holds w' (H ++ Fr) ∧ Grew w w'
def RetRYN (v : Value) (P : Nat) (r : List YB × Int × Int) (w : World) (Fr : HL) (e : Ending) (w' : World) : Prop := ∃ H, e = .returned (.tuple #[.int .i64 r.2.1, .int .i64 r.2.2]) ∧ IsRY v r.1 P H ∧ Holds w' (H ++ Fr) ∧ Grew w w'

section
variable {v : Value} {y : List YB} {P : Nat} {H Fr : HL} {w : World}
set_option maxRecDepth 20000 in
set_option maxHeartbeats 1000000 in
theorem ryopen_any (b : Int) (h : IsRY v y P H) (hH : Holds w (H ++ Fr)) : Calls Try.prog 81 #[v, .int .i64 b] w (RetRY v P (Yopen y b) w Fr) := by
  have HS := Lib.hid (rystate_any (w := w) b h hH)
  have HI := Lib.hid h
  cases ha : Yat y b with
  | none =>
    rw [show Yopen y b = (y, 2) by simp [Yopen, ha]]
    rw [Ystate_none ha] at HS
    clear ha h
    go_enter Try.func81, Try.ntmps81
    go_wp2_with fail
    refine HS.out.mono ?_
    rintro e wx ⟨rfl, rfl⟩
    go_wp2_with fail
    go_ret
    exact ⟨H, rfl, HI.out, hH, Grew.refl _⟩
  | some x =>
    obtain ⟨k, rfl, hk, hx⟩ := Yat_some ha
    rw [Ystate_some ha] at HS
    obtain ⟨p, gs, cs, gt, ct, gn, cn, gd, cd, pn, pnc, pd, pdc, hA⟩ := h.open_ hx
    obtain rfl := hA.ptr
    have hyo : Yopen y (k : Int) = if x.state = 1 then (y.set k { x with state := 2, taken := 0 }, 0) else (y, 9) := by simp [Yopen, ha, Yset]
    rw [hyo]
    have hs0 : (x.state == 0) = false := by have := hA.ok.2.2; simp; omega
    clear hyo ha hx h
    by_cases h1 : x.state = 1
    · rw [if_pos h1]
      have HA := Lib.hid hA
      have hbd := hA.bd
      have hcs := hbd.1
      have hcm := hbd.2.1
      have hct := hbd.2.2.1
      have hctm := hbd.2.2.2.1
      unfold maxLen at hcm hctm
      have HST := Lib.hid (fun (wx : World) (hx : Holds wx (H ++ Fr)) => hA.setST wx Fr 2 0 hx (by omega) (by omega) (by omega) (by omega))
      have HHD := Lib.hid (fun (wx : World) (hx : Holds wx (H ++ Fr)) => And.intro (hA.heads wx Fr hx) (hA.cells wx Fr hx))
      rw [h1] at HS
      clear hbd hA hs0 h1
      generalize y.length = n at *
      go_enter Try.func81, Try.ntmps81
      go_wp2_with fail
      refine HS.out.mono ?_
      rintro e wx ⟨rfl, rfl⟩
      clear HS
      go_upto_region 5 with fail
      refine Z_begin (fun wx => wx.cell? ⟨p, 0, none⟩ = some (.slice (some ⟨gs, 0, none⟩) n cs) ∧ wx.cell? ⟨p, 1, none⟩ = some (.slice (some ⟨gt, 0, none⟩) n ct)) 13 (by kernel_rfl) (fun w1 hd => ⟨(HHD.out _ (hH.dr hd)).1.1, (HHD.out _ (hH.dr hd)).1.2.1⟩) (fun w1 hd hs => ?_)
      have hH1 := hH.dr hd; have hG1 := Grew.dr hd; clear hd; obtain ⟨⟨a1, a2, _⟩, d1, d2, f1, f2⟩ := HHD.out _ hH1
      refine Z_takeD 0 (some 12) (v := ?_) rfl rfl (by kernel_rfl) (fun _ _ _ h => h) (by rfl) hs ?_ ?_
      rotate_left
      · intro wx hx; obtain ⟨x1, x2⟩ := hx; go_simp; try with_reducible rfl
      simp only [Act.put, List.setIfInBounds_toArray, List.set_cons_succ, List.set_cons_zero]
      refine Z_takeD 1 (some 13) (v := ?_) rfl rfl (by kernel_rfl) (fun _ _ _ h => h) (by rfl) hs ?_ ?_
      rotate_left
      · intro wx hx; obtain ⟨x1, x2⟩ := hx; go_simp; try with_reducible rfl
      simp only [Act.put, List.setIfInBounds_toArray, List.set_cons_succ, List.set_cons_zero]
      refine Z_takeD 2 (some 14) (v := ?_) rfl rfl (by kernel_rfl) (fun _ _ _ h => h) (by rfl) hs ?_ ?_
      rotate_left
      · intro wx hx; obtain ⟨x1, x2⟩ := hx; go_simp; try with_reducible rfl
      simp only [Act.put, List.setIfInBounds_toArray, List.set_cons_succ, List.set_cons_zero]
      refine Z_takeD 3 (some 15) (v := ?_) rfl rfl (by kernel_rfl) (fun _ _ _ h => h) (by rfl) hs ?_ ?_
      rotate_left
      · intro wx hx; obtain ⟨x1, x2⟩ := hx; go_simp; try with_reducible rfl
      simp only [Act.put, List.setIfInBounds_toArray, List.set_cons_succ, List.set_cons_zero]
      refine Z_takeD 4 (some 16) (v := ?_) rfl rfl (by kernel_rfl) (fun _ _ _ h => h) (by rfl) hs ?_ ?_
      rotate_left
      · intro wx hx; obtain ⟨x1, x2⟩ := hx; go_simp; try with_reducible rfl
      simp only [Act.put, List.setIfInBounds_toArray, List.set_cons_succ, List.set_cons_zero]
      refine Z_takeD 5 (some 17) (v := ?_) rfl rfl (by kernel_rfl) (fun _ _ _ h => h) (by rfl) hs ?_ ?_
      rotate_left
      · intro wx hx; obtain ⟨x1, x2⟩ := hx; go_simp; try with_reducible rfl
      simp only [Act.put, List.setIfInBounds_toArray, List.set_cons_succ, List.set_cons_zero]
      refine Z_takeD 6 (some 18) (v := ?_) rfl rfl (by kernel_rfl) (fun _ _ _ h => h) (by rfl) hs ?_ ?_
      rotate_left
      · intro wx hx; obtain ⟨x1, x2⟩ := hx; go_simp; try with_reducible rfl
      simp only [Act.put, List.setIfInBounds_toArray, List.set_cons_succ, List.set_cons_zero]
      refine Z_takeD 7 (some 19) (v := ?_) rfl rfl (by kernel_rfl) (fun _ _ _ h => h) (by rfl) hs ?_ ?_
      rotate_left
      · intro wx hx; obtain ⟨x1, x2⟩ := hx; go_simp; try with_reducible rfl
      simp only [Act.put, List.setIfInBounds_toArray, List.set_cons_succ, List.set_cons_zero]
      refine Z_takeD 8 (some 20) (v := ?_) rfl rfl (by kernel_rfl) (fun _ _ _ h => h) (by rfl) hs ?_ ?_
      rotate_left
      · intro wx hx; obtain ⟨x1, x2⟩ := hx; go_simp; try with_reducible rfl
      simp only [Act.put, List.setIfInBounds_toArray, List.set_cons_succ, List.set_cons_zero]
      refine Z_takeD 9 (some 21) (v := ?_) rfl rfl (by kernel_rfl) (fun _ _ _ h => h) (by rfl) hs ?_ ?_
      rotate_left
      · intro wx hx; obtain ⟨x1, x2⟩ := hx; go_simp; try with_reducible rfl
      simp only [Act.put, List.setIfInBounds_toArray, List.set_cons_succ, List.set_cons_zero]
      refine Z_takeD 10 (some 22) (v := ?_) rfl rfl (by kernel_rfl) (fun _ _ _ h => h) (by rfl) hs ?_ ?_
      rotate_left
      · intro wx hx; obtain ⟨x1, x2⟩ := hx; go_simp; try with_reducible rfl
      simp only [Act.put, List.setIfInBounds_toArray, List.set_cons_succ, List.set_cons_zero]
      refine Z_mid 11 rfl (by kernel_rfl) (fun K hK => ?_)
      have ⟨x1, x2⟩ := hs
      go_simp   -- store w
      clear x1 x2
      refine hK _ _ (⟨cell_keep a1 d1 (by simp), cell_keep a2 d1 (by simp)⟩) (fun hs2 => ?_); clear hK K hs; have hs := hs2; clear hs2
      refine Z_takeD 12 (some 23) (v := ?_) rfl rfl (by kernel_rfl) (fun _ _ _ h => h) (by rfl) hs ?_ ?_
      rotate_left
      · intro wx hx; obtain ⟨x1, x2⟩ := hx; go_simp; try with_reducible rfl
      simp only [Act.put, List.setIfInBounds_toArray, List.set_cons_succ, List.set_cons_zero]
      refine Z_last 13 rfl (by kernel_rfl) rfl (fun K hK => ?_)
      have ⟨x1, x2⟩ := hs
      obtain ⟨f3, d3, _⟩ := HST.out _ hH1; go_simp   -- store w
      clear x1 x2
      refine hK _ _ ?_; clear hK K hs
      refine Z_done (by kernel_rfl) ?_ _
      obtain ⟨f3, d3, H', hy', hH'⟩ := HST.out _ hH1
      have HY := Lib.hid hy'
      have hGf := (hG1.setCell ⟨gs, k, none⟩ (.int .i64 2)).setCell ⟨gt, k, none⟩ (.int .i64 0)
      have HF := Lib.hid hH'
      clear hy' hH' f3 d3 a1 a2 d1 d2 f1 f2 hH1 hG1
      go_wp2_with fail
      go_ret
      exact ⟨H', rfl, HY.out, HF.out, hGf⟩
    · rw [if_neg h1]
      have h1' : (x.state == 1) = false := by simpa using h1
      clear h1 hA
      generalize x.state = s at *
      go_enter Try.func81, Try.ntmps81
      go_wp2_with fail
      refine HS.out.mono ?_
      rintro e wx ⟨rfl, rfl⟩
      go_wp2_with fail
      go_ret
      exact ⟨H, rfl, HI.out, hH, Grew.refl _⟩

set_option maxRecDepth 20000 in
set_option maxHeartbeats 1000000 in
theorem rynext_any (b : Int) (h : IsRY v y P H) (hH : Holds w (H ++ Fr)) : Calls Try.prog 82 #[v, .int .i64 b] w (RetRYN v P (Ynext y b) w Fr) := by
  have HS := Lib.hid (rystate_any (w := w) b h hH)
  have HI := Lib.hid h
  cases ha : Yat y b with
  | none =>
    rw [show Ynext y b = (y, 0, 2) by simp [Ynext, ha]]
    rw [Ystate_none ha] at HS
    clear ha h
    go_enter Try.func82, Try.ntmps82
    go_wp2_with fail
    refine HS.out.mono ?_
    rintro e wx ⟨rfl, rfl⟩
    clear HS
    go_wp2_with fail
    go_ret2
    exact ⟨H, rfl, HI.out, hH, Grew.refl _⟩
  | some x =>
    obtain ⟨k, rfl, hk, hx⟩ := Yat_some ha
    rw [Ystate_some ha] at HS
    obtain ⟨p, gs, cs, gt, ct, gn, cn, gd, cd, pn, pnc, pd, pdc, hA⟩ := h.open_ hx
    obtain rfl := hA.ptr
    have hyo : Ynext y (k : Int) = if x.state ≠ 2 then (y, 0, 9) else if (x.pages.length : Int) ≤ x.taken then (y, 0, 7) else (y.set k { x with taken := x.taken + 1 }, x.taken, 0) := by simp [Ynext, ha, Yset]
    rw [hyo]
    have hs0 : (x.state == 0) = false := by have := hA.ok.2.2; simp; omega
    have hbd := hA.bd
    obtain ⟨hb1, hb2, hb3, hb4, _, _, _, _, _, _, _, _, _, _, hP1, hP8⟩ := hbd
    have HHD := Lib.hid (fun (wx : World) (hx : Holds wx (H ++ Fr)) => And.intro (hA.heads wx Fr hx) (hA.cells wx Fr hx))
    have HS1 := Lib.hid hA.setS
    have HT1 := Lib.hid hA.setT
    have HST := Lib.hid hA.setST
    have hok := hA.ok.1
    have hpl := hA.ok.2.1
    have ht0 := hok.1
    unfold maxLen at hb2 hb4
    clear hyo ha hx h hok hA
    obtain ⟨⟨a0, a1, _, _, a4⟩, d1, d2, f1, f2⟩ := HHD.out w hH
    have hH2 := Lib.hid hH
    rw [hpl]
    clear hpl
    by_cases h2 : x.state = 2
    · rw [if_neg (by omega)]
      rw [h2] at HS d1
      by_cases h3 : (P : Int) ≤ x.taken
      · rw [if_pos h3]
        clear hs0 h2
        generalize y.length = n at *
        generalize x.taken = t at *
        go_enter Try.func82, Try.ntmps82
        go_wp2_with fail
        refine HS.out.mono ?_
        rintro e wx ⟨rfl, rfl⟩
        clear HS
        go_wp2_with fail
        go_quiet (fail)
        go_wp2_with fail
        go_ret2
        exact ⟨H, rfl, HI.out, hH2.out.drewN nq, (Grew.refl _).drewN nq⟩
      · rw [if_neg h3]
        have e1 : ∀ q : Nat, ((w.drewN q).setCell ⟨gt, k, none⟩ (.int .i64 (x.taken + 1))).cell? ⟨p, 1, none⟩ = some (.slice (some ⟨gt, 0, none⟩) y.length ct) := fun q => cell_keep (w := w.drewN q) a1 d2 (by simp)
        have HT2 := Lib.hid (fun q : Nat => HT1.out (w.drewN q) Fr (x.taken + 1) (hH.drewN q) (by omega) (by omega))
        clear hs0 h2 hH
        generalize y.length = n at *
        go_enter Try.func82, Try.ntmps82
        go_wp2_with fail
        refine HS.out.mono ?_
        rintro e wx ⟨rfl, rfl⟩
        clear HS
        go_wp2_with fail
        go_quiet (fail)
        go_wp2_with fail
        obtain ⟨H', hy', hh'⟩ := HT2.out nq
        have HY := Lib.hid hy'
        have HHF := Lib.hid hh'
        clear hy' hh'
        go_ret2
        exact ⟨H', rfl, HY.out, HHF.out, ((Grew.refl _).drewN nq).setCell _ _⟩
    · rw [if_pos h2]
      have h2' : (x.state != 2) = true := by simpa using h2
      clear h2 HS1 HT1 HST
      generalize x.state = s at *
      generalize y.length = n at *
      go_enter Try.func82, Try.ntmps82
      go_wp2_with fail
      refine HS.out.mono ?_
      rintro e wx ⟨rfl, rfl⟩
      clear HS
      go_wp2_with fail
      go_ret2
      exact ⟨H, rfl, HI.out, hH, Grew.refl _⟩

set_option maxRecDepth 20000 in
set_option maxHeartbeats 1000000 in
theorem ryseal_any (b : Int) (h : IsRY v y P H) (hH : Holds w (H ++ Fr)) : Calls Try.prog 83 #[v, .int .i64 b] w (RetRY v P (Yturn y b 2 3) w Fr) := by
  have HS := Lib.hid (rystate_any (w := w) b h hH)
  have HI := Lib.hid h
  cases ha : Yat y b with
  | none =>
    rw [show Yturn y b 2 3 = (y, 2) by simp [Yturn, ha]]
    rw [Ystate_none ha] at HS
    clear ha h
    go_enter Try.func83, Try.ntmps83
    go_wp2_with fail
    refine HS.out.mono ?_
    rintro e wx ⟨rfl, rfl⟩
    clear HS
    go_wp2_with fail
    go_ret
    exact ⟨H, rfl, HI.out, hH, Grew.refl _⟩
  | some x =>
    obtain ⟨k, rfl, hk, hx⟩ := Yat_some ha
    rw [Ystate_some ha] at HS
    obtain ⟨p, gs, cs, gt, ct, gn, cn, gd, cd, pn, pnc, pd, pdc, hA⟩ := h.open_ hx
    obtain rfl := hA.ptr
    have hyo : Yturn y (k : Int) 2 3 = if x.state = 2 then (y.set k { x with state := 3 }, 0) else (y, 9) := by simp [Yturn, ha, Yset]
    rw [hyo]
    have hs0 : (x.state == 0) = false := by have := hA.ok.2.2; simp; omega
    have hbd := hA.bd
    obtain ⟨hb1, hb2, hb3, hb4, _, _, _, _, _, _, _, _, _, _, hP1, hP8⟩ := hbd
    have HHD := Lib.hid (fun (wx : World) (hx : Holds wx (H ++ Fr)) => And.intro (hA.heads wx Fr hx) (hA.cells wx Fr hx))
    have HS1 := Lib.hid hA.setS
    have HT1 := Lib.hid hA.setT
    have HST := Lib.hid hA.setST
    have hok := hA.ok.1
    have ht0 := hok.1
    unfold maxLen at hb2 hb4
    clear hyo ha hx h hok hA
    obtain ⟨⟨a0, a1, _, _, a4⟩, d1, d2, f1, f2⟩ := HHD.out w hH
    have hH2 := Lib.hid hH
    by_cases h2 : x.state = 2
    · rw [if_pos h2]
      rw [h2] at HS d1
      obtain ⟨H', hy', hh'⟩ := HS1.out w Fr 3 hH (by omega) (by omega)
      have HY := Lib.hid hy'
      have HHF := Lib.hid hh'
      clear hy' hh' HS1 HT1 HST
      generalize y.length = n at *
      go_enter Try.func83, Try.ntmps83
      go_wp2_with fail
      refine HS.out.mono ?_
      rintro e wx ⟨rfl, rfl⟩
      clear HS
      go_wp2_with fail
      go_ret
      exact ⟨H', rfl, HY.out, HHF.out, (Grew.refl _).setCell _ _⟩
    · rw [if_neg h2]
      have h2' : (x.state != 2) = true := by simpa using h2
      clear h2
      clear HS1 HT1 HST
      generalize y.length = n at *
      go_enter Try.func83, Try.ntmps83
      go_wp2_with fail
      refine HS.out.mono ?_
      rintro e wx ⟨rfl, rfl⟩
      clear HS
      go_wp2_with fail
      go_ret
      exact ⟨H, rfl, HI.out, hH, Grew.refl _⟩

set_option maxRecDepth 20000 in
set_option maxHeartbeats 1000000 in
theorem ryretire_any (b : Int) (h : IsRY v y P H) (hH : Holds w (H ++ Fr)) : Calls Try.prog 85 #[v, .int .i64 b] w (RetRY v P (Yretire y b) w Fr) := by
  have HS := Lib.hid (rystate_any (w := w) b h hH)
  have HI := Lib.hid h
  cases ha : Yat y b with
  | none =>
    rw [show Yretire y b = (y, 2) by simp [Yretire, ha]]
    rw [Ystate_none ha] at HS
    clear ha h
    go_enter Try.func85, Try.ntmps85
    go_wp2_with fail
    refine HS.out.mono ?_
    rintro e wx ⟨rfl, rfl⟩
    clear HS
    go_wp2_with fail
    go_ret
    exact ⟨H, rfl, HI.out, hH, Grew.refl _⟩
  | some x =>
    obtain ⟨k, rfl, hk, hx⟩ := Yat_some ha
    rw [Ystate_some ha] at HS
    obtain ⟨p, gs, cs, gt, ct, gn, cn, gd, cd, pn, pnc, pd, pdc, hA⟩ := h.open_ hx
    obtain rfl := hA.ptr
    have hyo : Yretire y (k : Int) = if x.state = 4 then (y, 9) else (y.set k { x with state := 4 }, 0) := by simp [Yretire, ha, Yset]
    rw [hyo]
    have hs0 : (x.state == 0) = false := by have := hA.ok.2.2; simp; omega
    have hbd := hA.bd
    obtain ⟨hb1, hb2, hb3, hb4, _, _, _, _, _, _, _, _, _, _, hP1, hP8⟩ := hbd
    have HHD := Lib.hid (fun (wx : World) (hx : Holds wx (H ++ Fr)) => And.intro (hA.heads wx Fr hx) (hA.cells wx Fr hx))
    have HS1 := Lib.hid hA.setS
    have HT1 := Lib.hid hA.setT
    have HST := Lib.hid hA.setST
    have hok := hA.ok.1
    have ht0 := hok.1
    unfold maxLen at hb2 hb4
    clear hyo ha hx h hok hA
    obtain ⟨⟨a0, a1, _, _, a4⟩, d1, d2, f1, f2⟩ := HHD.out w hH
    have hH2 := Lib.hid hH
    by_cases h2 : x.state = 4
    · rw [if_pos h2]
      rw [h2] at HS d1
      clear HS1 HT1 HST
      generalize y.length = n at *
      go_enter Try.func85, Try.ntmps85
      go_wp2_with fail
      refine HS.out.mono ?_
      rintro e wx ⟨rfl, rfl⟩
      clear HS
      go_wp2_with fail
      go_ret
      exact ⟨H, rfl, HI.out, hH, Grew.refl _⟩
    · rw [if_neg h2]
      have h2' : (x.state == 4) = false := by simpa using h2
      clear h2
      obtain ⟨H', hy', hh'⟩ := HS1.out w Fr 4 hH (by omega) (by omega)
      have HY := Lib.hid hy'
      have HHF := Lib.hid hh'
      clear hy' hh' HS1 HT1 HST
      generalize y.length = n at *
      go_enter Try.func85, Try.ntmps85
      go_wp2_with fail
      refine HS.out.mono ?_
      rintro e wx ⟨rfl, rfl⟩
      clear HS
      go_wp2_with fail
      go_ret
      exact ⟨H', rfl, HY.out, HHF.out, (Grew.refl _).setCell _ _⟩
end
end Go.Proofs.Yteaeahhjkagbdaa
